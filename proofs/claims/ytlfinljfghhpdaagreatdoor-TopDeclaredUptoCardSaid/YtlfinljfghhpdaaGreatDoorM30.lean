/- Lemmas for a statement on the tops; conditions: as each says. -/
import Derived.Laws.AppendOwnNone
import Derived.Test.YtlfinljfghhpdaaGreatDoorM29
set_option linter.unusedVariables false
set_option linter.unusedSimpArgs false
set_option maxRecDepth 100000
set_option maxHeartbeats 4000000
namespace Go.Proofs.YtlfinljfghhpdaaGreatDoor
open Go Go.RowKit
theorem ZcZ {a:UInt8} {n:Nat} (h:a.toNat≠n):((a.toNat:Int) !=(n:Int))=true∧((a.toNat:Int)==(n:Int))=false:=by
 constructor
 · rw [bne_iff_ne];omega
 · rw [beq_eq_false_iff_ne];omega
theorem Zju (s:ByteArray)(i:Nat)(hi:i≤s.size)(hs:s.size≤35184372089000)(w:World):
 Calls Tryz.prog 294 #[.string s,.int .i64 i] w (Zfa s i w):=by
 generalize hP:Zfa s i w=P at*;obtain⟨n,hn⟩:∃n,n=(lnT (s.data.toList.drop i)).length:=⟨_,rfl⟩
 obtain⟨h1,h2,h3,h4⟩:=Zh0 s i n hi hn;obtain⟨g1,g2,g3,g4⟩:=Zhi s i n hn;have hx:=fun m hm=>ZlE s i n m hn hm;have H2:=Lib.hid h2;have H3:=Lib.hid h3;have H4:=Lib.hid h4;have G1:=Lib.hid g1;have G2:=Lib.hid g2;have G3:=Lib.hid g3;have G4:=Lib.hid g4;have Hx:=Lib.hid hx;clear h2 h3 h4 g1 g2 g3 g4 hx hn;go_enter Tryz.func294,Tryz.ntmps294
 go_wp2_with fail
 go_loop [5] (fun e=>NxRel i n e) (fun e=>i+n - (intOf e).toNat)
 case atStart=>exact⟨0,by omega,rfl⟩
 case round=>
  obtain⟨k,hk,rfl⟩:=hrel;by_cases hkn:k<n
  · obtain⟨a1,a2⟩:=H2.out k hkn (by omega);have b1:=ZcZ (n:=10) (Zc8 a1);have b2:=ZcZ (n:=13) (Zc8 a2);have c1:((s[i+k].toNat:Int) !=10)=true:=b1.1;have c2:((s[i+k].toNat:Int) !=13)=true:=b2.1;have hlt:i+k<s.size:=by omega
    clear a1 a2 b1 b2;go_wp2_with fail
    go_round
    case rel=>exact⟨k+1,by omega,by go_num⟩
    case measure=>simp [intOf];omega
  · have hk2:k=n:=by omega
    subst hk2;clear hkn;generalize hpq:i+k=q at*;have Hpq:=Lib.hid hpq;clear hpq;have b0:=heap_alloc_new w (.cells #[.string ⟨#[]⟩,.string ⟨#[]⟩,.int .i64 0] 262);by_cases hq:q<s.size
    · rcases H3.out hq with e10|e13
      · have c1:((s[q].toNat:Int) !=10)=false:=by rw [e10];rfl
        have c2:((s[q].toNat:Int)==13)=false:=by rw [e10];rfl
        have hE:=Lib.hid (G2.out hq e10);have hX:=Lib.hid (Hx.out 1 (by rw [hE.out];rfl));clear e10;go_wp2_with fail
        have hsl:i≤q:=by have:=Hpq.out;omega
        go_region
        go_wp2_with fail
        refine bodyPost_ret (v:= .agg #[.string (s.extract i q),.string (s.extract q (q+1)),.int .i64 i]) (by simp [results,Tryz.results294,go_sem]) rfl ?_;rw [←hP];refine⟨?_,((Below.refl _ w).alloc (Nat.le_refl _) _).drew⟩;have e1:=H4.out;have e2:=hX.out;show Ending.returned (.agg #[.string (s.extract i q),.string (s.extract q (q+1)),.int .i64 i])=_
        rw [e1,e2]
      · have c1:((s[q].toNat:Int) !=10)=true:=by rw [e13];rfl
        have c2:((s[q].toNat:Int) !=13)=false:=by rw [e13];rfl
        have c3:((s[q].toNat:Int)==13)=true:=by rw [e13];rfl
        by_cases hq2:q+1<s.size
        · by_cases e10:s[q+1]=10
          · have c4:((s[q+1].toNat:Int)==10)=true:=by rw [e10];rfl
            have hE:=Lib.hid (G3.out hq hq2 e13 e10);have hX:=Lib.hid (Hx.out 2 (by rw [hE.out];rfl));clear e10 e13;go_wp2_with fail
            have hsl:i≤q:=by have:=Hpq.out;omega
            go_region
            go_wp2_with fail
            refine bodyPost_ret (v:= .agg #[.string (s.extract i q),.string (s.extract q (q+2)),.int .i64 i]) (by simp [results,Tryz.results294,go_sem]) rfl ?_;rw [←hP];refine⟨?_,((Below.refl _ w).alloc (Nat.le_refl _) _).drew⟩;have e1:=H4.out;have e2:=hX.out;show Ending.returned (.agg #[.string (s.extract i q),.string (s.extract q (q+2)),.int .i64 i])=_
            rw [e1,e2]
          · have c4:((s[q+1].toNat:Int)==10)=false:=(ZcZ (n:=10) (Zc8 e10)).2;have hE:=Lib.hid (G4.out hq e13 (fun _=>e10));have hX:=Lib.hid (Hx.out 1 (by rw [hE.out];rfl));clear e10 e13;go_wp2_with fail
            have hsl:i≤q:=by have:=Hpq.out;omega
            go_region
            go_wp2_with fail
            refine bodyPost_ret (v:= .agg #[.string (s.extract i q),.string (s.extract q (q+1)),.int .i64 i]) (by simp [results,Tryz.results294,go_sem]) rfl ?_;rw [←hP];refine⟨?_,((Below.refl _ w).alloc (Nat.le_refl _) _).drew⟩;have e1:=H4.out;have e2:=hX.out;show Ending.returned (.agg #[.string (s.extract i q),.string (s.extract q (q+1)),.int .i64 i])=_
            rw [e1,e2]
        · have hE:=Lib.hid (G4.out hq e13 (fun h=>absurd h hq2));have hX:=Lib.hid (Hx.out 1 (by rw [hE.out];rfl));clear e13;go_wp2_with fail
          have hsl:i≤q:=by have:=Hpq.out;omega
          go_region
          go_wp2_with fail
          refine bodyPost_ret (v:= .agg #[.string (s.extract i q),.string (s.extract q (q+1)),.int .i64 i]) (by simp [results,Tryz.results294,go_sem]) rfl ?_;rw [←hP];refine⟨?_,((Below.refl _ w).alloc (Nat.le_refl _) _).drew⟩;have e1:=H4.out;have e2:=hX.out;show Ending.returned (.agg #[.string (s.extract i q),.string (s.extract q (q+1)),.int .i64 i])=_
          rw [e1,e2]
    · have hq3:q=s.size:=by have:=Hpq.out;omega
      have hE:=Lib.hid (G1.out hq3);have hX:=Lib.hid (show s.extract q q=_ from Hx.out 0 (by rw [hE.out];rfl));clear hq3;go_wp2_with fail
      have hsl:i≤q:=by have:=Hpq.out;omega
      go_region
      go_wp2_with fail
      refine bodyPost_ret (v:= .agg #[.string (s.extract i q),.string (s.extract q q),.int .i64 i]) (by simp [results,Tryz.results294,go_sem]) rfl ?_;rw [←hP];refine⟨?_,((Below.refl _ w).alloc (Nat.le_refl _) _).drew⟩;have e1:=H4.out;have e2:=hX.out;show Ending.returned (.agg #[.string (s.extract i q),.string (s.extract q q),.int .i64 i])=_
      rw [e1,e2]
abbrev Ln:=List UInt8×List UInt8×Nat
def lnV (x:Ln):List Value:=[.string (B x.1),.string (B x.2.1),.int .i64 x.2.2]
def ZG:Nat→List UInt8→Nat→List Ln
 |0,_,_=>[]
 |f+1,r,i=>if r=[] then [] else(lnT r,lnE r,i)::ZG f (r.drop ((lnT r).length+(lnE r).length)) (i+((lnT r).length+(lnE r).length))
def Zv (t:List UInt8):List Ln:=ZG t.length t 0
theorem Zft {r:List UInt8} (h:r≠[]):0<(lnT r).length+(lnE r).length:=by
 by_cases h0:(lnT r).length=0
 · obtain⟨c,l,rfl⟩:=List.exists_cons_of_ne_nil h;unfold lnE;rw [h0,List.drop_zero];have:0<(Zbz (c::l)).length:=by
    unfold Zbz;split
    · simp
    · simp
    · rename_i e;cases e
   omega
 · omega
theorem ZfL (r:List UInt8):(lnT r).length+(lnE r).length≤r.length:=by
 obtain⟨t,ht⟩:=ZhO r;have:=congrArg List.length ht;simp only [List.length_append] at this;omega
theorem ZfK (f i:Nat):ZG f [] i=[]:=by cases f<;>simp [ZG]
theorem flat3 {α:Type} (f:α→List Value)(hf:∀x,(f x).length=3):∀l:List α,(l.flatMap f).length=l.length*3
 |[]=>rfl
 |x::l=>by rw [List.flatMap_cons,List.length_append,hf,flat3 f hf l,List.length_cons];omega
theorem Zfw {α:Type} (f:α→List Value)(hf:∀x,(f x).length=3):∀(l:List α) (k j:Nat) (x:α),l[k]? =some x→j<3→(l.flatMap f)[k*3+j]? =(f x)[j]?
 |y::l,0,j,x,h,hj=>by
  simp only [List.getElem?_cons_zero,Option.some.injEq] at h;subst h;rw [List.flatMap_cons,List.getElem?_append_left (by rw [hf];omega)];congr 1
  omega
 |y::l,k+1,j,x,h,hj=>by
  rw [List.getElem?_cons_succ] at h;rw [List.flatMap_cons,List.getElem?_append_right (by rw [hf];omega),hf,←Zfw f hf l k j x h hj];congr 1
  omega
theorem ZsZ {w:World} {base:Nat} {e:TypeId} {size:Nat} {v:Value} {n:Nat} {xs:List Value} (h:w.ownsRow base e size v n xs){K:Nat} (hK:w.heap.size≤K):some K≠v.ownBlock:=fun e=>by
 have:=h.lt K e.symm;omega
theorem Zdq {w w':World} {K:Nat} {o:Obj} (h:w.heap[K]? =some o)(hb:Below w.heap.size w w'):w'.heap[K]? =some o:=by
 rw [hb.block K (Array.getElem?_eq_some_iff.1 h).1,h]
theorem Zez {w w':World} {K:Nat} {o:Obj} {row:Option Nat} (h:w.heap[K]? =some o)(hg:w.grownBy w' row)(hne:some K≠row):w'.heap[K]? =some o:=by
 rw [hg.block K (Array.getElem?_eq_some_iff.1 h).1 hne,h]
theorem ZeA {w:World} {K:Nat} {o:Obj} (h:w.heap[K]? =some o)(o':Obj):(w.alloc o').heap[K]? =some o:=Zdq h ((Below.refl _ _).alloc (Nat.le_refl _) _)
theorem Zcn (w:World)(x y z:Value)(t:TypeId):∀j u,[x,y,z][j]? =some u→(w.alloc (.cells #[x,y,z] t)).cell? ((⟨w.heap.size,0,none⟩:Addr).add j)=some u:=by
 intro j u hu;have hadd:(⟨w.heap.size,0,none⟩:Addr).add j=⟨w.heap.size,j,none⟩:=by unfold Addr.add;split<;>simp_all
 rw [hadd,cell_of_row _ w.heap.size j _ t (0,0) (heap_alloc_new w _)];simpa using hu
theorem cells3 {w:World} {K:Nat} {t:TypeId} {x y z:Value} (h:w.heap[K]? =some (.cells #[x,y,z] t (0,0))):w.cell? ⟨K,0,none⟩=some x∧w.cell? ⟨K,1,none⟩=some y∧w.cell? ⟨K,2,none⟩=some z:=by
 rw [cell_of_row _ K 0 _ t (0,0) h,cell_of_row _ K 1 _ t (0,0) h,cell_of_row _ K 2 _ t (0,0) h];exact⟨rfl,rfl,rfl⟩
def ZB {α:Type} (f:α→List Value)(w:World)(v:Value)(l:List α):Prop:=
 (l=[]∧v= .slice none 0 0)∨∃bk c:Nat,l≠[]∧v= .slice (some ⟨bk,0,none⟩) l.length c∧l.length≤c∧bk<w.heap.size∧∀j u,(l.flatMap f)[j]? =some u→w.cell? ⟨bk,j,none⟩=some u
theorem ZB.below {α:Type} {f:α→List Value} {w w':World} {v:Value} {l:List α} (h:ZB f w v l)(hb:Below w.heap.size w w'):ZB f w' v l:=by
 rcases h with h|⟨bk,c,h0,h1,h2,h3,h4⟩
 · exact .inl h
 · exact .inr ⟨bk,c,h0,h1,h2,Nat.lt_of_lt_of_le h3 hb.size,fun j u hu=>(hb.cell (p:=⟨bk,j,none⟩) h3).trans (h4 j u hu)⟩
theorem ZB.of_own {α:Type} {f:α→List Value} {w:World} {base:Nat} {e:TypeId} {v:Value} {l:List α} {n:Nat} (hn:n=l.length)(h:w.ownsRow base e 3 v n (l.flatMap f))(h0:l=[]→v= .slice none 0 0):ZB f w v l:=by
 by_cases hl:l=[]
 · exact .inl ⟨hl,h0 hl⟩
 · right
   rcases h.2 with⟨_,h1⟩|⟨g,cap,cur,rfl,hb,hg,hnc,hcm,hcs,htake⟩
   · rw [hn] at h1;exact absurd (List.length_eq_zero_iff.1 h1) hl
   · subst hn;refine⟨g,cap,hl,rfl,hnc,(Array.getElem?_eq_some_iff.1 hg).1,fun j u hu=> ?_⟩;have:=h.cells (g:=g) rfl j u hu;have hadd:(⟨g,0,none⟩:Addr).add j=⟨g,j,none⟩:=by unfold Addr.add;split<;>simp_all
     rw [hadd] at this;exact this
theorem ZB.set2 {α:Type} {f:α→List Value} {w:World} {base:Nat} {e:TypeId} {v:Value} {l:List α} (h:ZB f w v l)(ho:w.ownsRow base e 3 v l.length (l.flatMap f)){p q:Addr} (hp:p.block<base)(hq:q.block<base)(x y:Value):ZB f ((w.setCell p x).setCell q y) v l:=by
 rcases h with h|⟨bk,c,h0,rfl,h2,h3,h4⟩
 · exact .inl h
 · have hb:base≤bk:=by
    rcases ho.2 with⟨h1,_⟩|⟨g,cap,cur,h1,hb,_⟩
    · simp at h1
    · simp only [Value.slice.injEq,Option.some.injEq,Addr.mk.injEq] at h1;omega
   refine .inr ⟨bk,c,h0,rfl,h2,by simpa using h3,fun j u hu=> ?_⟩;rw [World.cell?_setCell_other _ q _ y (fun e=>by subst e;simp at hq;omega),World.cell?_setCell_other _ p _ x (fun e=>by subst e;simp at hp;omega)];exact h4 j u hu
theorem ZB.at_ {α:Type} {f:α→List Value} (hf:∀x,(f x).length=3){w:World} {bk:Nat} {l:List α} (h:∀j u,(l.flatMap f)[j]? =some u→w.cell? ⟨bk,j,none⟩=some u){k:Nat} {x:α} {a b c:Value} (hx:l[k]? =some x)(hv:f x=[a,b,c]):
 w.cell? ⟨bk,k*3,none⟩=some a∧w.cell? ⟨bk,k*3+1,none⟩=some b∧w.cell? ⟨bk,k*3+2,none⟩=some c:=by
 refine⟨h _ _ ?_,h _ _ ?_,h _ _ ?_⟩
 · have:=Zfw f hf l k 0 x hx (by omega);rw [hv] at this;exact this
 · rw [Zfw f hf l k 1 x hx (by omega),hv];rfl
 · rw [Zfw f hf l k 2 x hx (by omega),hv];rfl
theorem Zsd:(Tryz.prog.info? 262).map (fun i=>(i.zero,i.size,i.bytes))=some (some (.agg #[.string ⟨#[]⟩,.string ⟨#[]⟩,.int .i64 0]),3,40):=by kernel_rfl
def LsRel (t:List UInt8)(w0:World)(v i:Value)(wr:World):Prop:=∃(done:List Ln) (k f:Nat),k≤t.length∧i= .int .i64 k∧Zv t=done++ZG f (t.drop k) k∧t.length - k≤f∧done.length≤k∧wr.ownsRow w0.heap.size 262 3 v done.length (done.flatMap lnV)∧(done=[]→v= .slice none 0 0)∧Below w0.heap.size w0 wr
def ZdJ (t:List UInt8)(w0:World)(e:Ending)(w':World):Prop:=∃v,e= .returned v∧ZB lnV w' v (Zv t)∧Below w0.heap.size w0 w'
theorem Zox (s:ByteArray)(hs:s.size≤1000000)(w:World):
 Calls Tryz.prog 228 #[.string s] w (ZdJ s.data.toList w):=by
 generalize hP:ZdJ s.data.toList w=P at*;obtain⟨i0,hi,iz0,iz1,iz2⟩:=info_parts Zsd;have hlen:=ZaR s;go_enter Tryz.func228,Tryz.ntmps228
 go_wp2_with fail
 go_loopw [3,4] (fun v i wr=>LsRel s.data.toList w v i wr) (fun _ i _=>s.size - (intOf i).toNat)
 case atStart=>exact⟨[],0,s.data.toList.length,by omega,rfl,rfl,by omega,by simp,⟨rfl,.inl ⟨rfl,rfl⟩⟩,fun _=>rfl,Below.refl _ _⟩
 case round=>
  obtain⟨done,k,f,hk,rfl,hl,hf,hd,hown,h0,hb⟩:=hrel;rw [hlen] at hk hf;by_cases hlt:k<s.size
  · have hnx:=fun w=>Zju s k (by omega) (by omega) w;unfold Zfa at hnx;have hrl:(s.data.toList.drop k).length=s.size - k:=by rw [List.length_drop,hlen]
    have hne:s.data.toList.drop k≠[]:=by intro e;rw [e] at hrl;simp at hrl;omega
    have hpos:=Zft hne;have hle:=ZfL (s.data.toList.drop k);obtain⟨f',rfl⟩:∃f',f=f'+1:=⟨f - 1,by omega⟩
    have hst:Zv s.data.toList=(done++[(lnT (s.data.toList.drop k),lnE (s.data.toList.drop k),k)])++ZG f' (s.data.toList.drop (k+((lnT (s.data.toList.drop k)).length+(lnE (s.data.toList.drop k)).length))) (k+((lnT (s.data.toList.drop k)).length+(lnE (s.data.toList.drop k)).length)):=by
     rw [hl,ZG,if_neg hne,List.drop_drop,List.append_assoc];rfl
    have Hst:=Lib.hid hst;have s1:=Zy (lnT (s.data.toList.drop k));have s2:=Zy (lnE (s.data.toList.drop k));rw [hrl] at hle;clear hst hl hne hrl;generalize lnT (s.data.toList.drop k)=T at*;generalize lnE (s.data.toList.drop k)=E at*;have hz:=hb.size;go_wp2_with (first|(go_at_call 294;refine(hnx _).mono ?_;rintro e w1 ⟨rfl,hb1⟩;have hz1:=hb1.size;have hown1:=Zt hown hb1)|(at_builtin;refine wpList_append_own _ rfl _ _ 260 rfl w.heap.size 262 i0 _ 3 40 Tryz.underlying260 hi iz0 iz1 iz2 rfl (by decide) _ done.length _ rfl ((hown1.alloc _).alloc _) ⟨w1.heap.size+1,0,none⟩ 1 1 [.string (B T),.string (B E),.int .i64 k] rfl rfl ?c1 ?c2 ?c3 ?c4 ?c5 ?_))
    case c1=>have:=Zcn (w1.alloc (.cells #[.string (B T),.string (B E),.int .i64 k] 262)) (.string (B T)) (.string (B E)) (.int .i64 k) 262;simpa using this
    case c2=>intro u hu;simp at hu;rcases hu with rfl|rfl|rfl<;>rfl
    case c3=>unfold maxLen;omega
    case c4=>omega
    case c5=>simp;omega
    intro v' w2 hown2 hg2 h02;have hbx:=Zez (ZeA (heap_alloc_new w1 (.cells #[.string (B T),.string (B E),.int .i64 k] 262)) (.cells #[.string (B T),.string (B E),.int .i64 k] 262)) hg2 (ZsZ hown1 (Nat.le_refl _));obtain⟨c0,c1,c2⟩:=cells3 hbx;have hB1:=hb.trans (hb1.mono hz);have hz2:w.heap.size≤w1.heap.size:=Nat.le_trans hz hz1;have hB2:=Z3 ((hB1.alloc hz2 (.cells #[.string (B T),.string (B E),.int .i64 k] 262)).alloc (by simp;omega) (.cells #[.string (B T),.string (B E),.int .i64 k] 262)) ((hown1.alloc _).alloc _) hg2 (by simp;omega) (Nat.le_refl _);have hdn:(done++[(T,E,k)]).length=done.length+1:=by simp
    have hfl:done.flatMap lnV++[.string (B T),.string (B E),.int .i64 k]=(done++[(T,E,k)]).flatMap lnV:=by rw [List.flatMap_append];rfl
    have Hfl:=Lib.hid hfl;have Hdn:=Lib.hid hdn;have H02:=Lib.hid h02;have Hown2:=Lib.hid hown2;clear hown2 hown1 hown hg2 hbx hfl hdn h02 h0;go_wp2_with fail
    go_roundw
    case rel=>
     refine⟨done++[(T,E,k)],k+(T.length+E.length),f',by omega,by simp,Hst.out,by omega,?_,?_,?_,hB2⟩
     · rw [Hdn.out];omega
     · rw [Hdn.out,←Hfl.out];exact Hown2.out
     · intro e;simp at e
    case measure=>simp [intOf];omega
  · have hk2:k=s.size:=by omega
    have he:Zv s.data.toList=done:=by rw [hl,List.drop_of_length_le (by omega),ZfK,List.append_nil]
    have He:=Lib.hid he;have Hown:=Lib.hid hown;have H0:=Lib.hid h0;clear hl he hk2 hown h0;go_wp2_with fail
    show P (.returned _) _
    rw [←hP];refine⟨_,rfl,?_,hb⟩;rw [He.out];exact ZB.of_own rfl Hown.out H0.out
abbrev Pc:=Bool×List UInt8×List UInt8
def pcV (p:Pc):List Value:=[.bool p.1,.string (B p.2.1),.string (B p.2.2)]
theorem ZeI (p:Pc):(pcV p).length=3:=rfl
def mk (s:List UInt8):Pc:=(true,Zdv,s)
def Zby (e:List UInt8):List Pc:=if e=[] then [] else [mk e]
def ZP (f:List UInt8→Option (List Pc)):List Ln→List Pc⊕Nat
 |[]=> .inl []
 |x::l=>match f x.1 with
  |none=> .inr x.2.2
  |some ps=>match ZP f l with
   | .inr a=> .inr a
   | .inl qs=> .inl (ps++Zby x.2.1++qs)
def pre (acc:List Pc):List Pc⊕Nat→List Pc⊕Nat
 | .inl qs=> .inl (acc++qs)
 | .inr a=> .inr a
theorem Zs9 (a b:List Pc)(r:List Pc⊕Nat):pre a (pre b r)=pre (a++b) r:=by
 cases r<;>simp [pre]
theorem pre_nil (r:List Pc⊕Nat):pre [] r=r:=by cases r<;>simp [pre]
theorem ZiS {f:List UInt8→Option (List Pc)} {x:Ln} {l:List Ln} {ps:List Pc} (h:f x.1=some ps):ZP f (x::l)=pre (ps++Zby x.2.1) (ZP f l):=by
 simp only [ZP,h];cases ZP f l<;>simp [pre]
theorem ZiR {f:List UInt8→Option (List Pc)} {x:Ln} {l:List Ln} (h:f x.1=none):ZP f (x::l)= .inr x.2.2:=by
 simp only [ZP,h]
def ZdK (f:List UInt8→Option (List Pc))(s:List UInt8)(w0:World)(e:Ending)(w':World):Prop:=
 ∃v,e= .returned (.tuple #[v,.bool (f s).isSome])∧ZB pcV w' v ((f s).getD [])∧Below w0.heap.size w0 w'
def Ze6 (b:Nat)(v:Value):Prop:=∀g,v.ownBlock=some g→b≤g
theorem Zrz {w:World} {base b:Nat} {e:TypeId} {size n:Nat} {v:Value} {xs:List Value} (h:w.ownsRow base e size v n xs)(hb:b≤base):Ze6 b v:=fun g hg=>Nat.le_trans hb (h.lt g hg).1
theorem ZB.set {α:Type} {f:α→List Value} {w:World} {v:Value} {l:List α} (h:ZB f w v l){b:Nat} (hv:Ze6 b v){p:Addr} (hp:p.block<b)(x:Value):ZB f (w.setCell p x) v l:=by
 rcases h with h|⟨bk,c,h0,rfl,h2,h3,h4⟩
 · exact .inl h
 · have hb:b≤bk:=hv bk rfl;refine .inr ⟨bk,c,h0,rfl,h2,by simpa using h3,fun j u hu=> ?_⟩;rw [World.cell?_setCell_other _ p _ x (fun e=>by subst e;simp at hp;omega)];exact h4 j u hu
def Zdg (r:List Pc⊕Nat)(b:Nat)(w':World)(v:Value)(e a:Int):Prop:=
 (∃ps,r= .inl ps∧ZB pcV w' v ps∧Ze6 b v∧e=0∧a=0)∨(∃n:Nat,r= .inr n∧v= .slice none 0 0∧e=1∧a=n)
def Zfi (f:List UInt8→Option (List Pc))(t:List UInt8)(w0:World)(e:Ending)(w':World):Prop:=
 ∃v x a,e= .returned (.tuple #[v,.agg #[.int .i64 x,.int .i64 a]])∧Zdg (ZP f (Zv t)) w0.heap.size w' v x a∧Below w0.heap.size w0 w'
theorem Zdg.set {r:List Pc⊕Nat} {b:Nat} {w:World} {v:Value} {e a:Int} (h:Zdg r b w v e a){p:Addr} (hp:p.block<b)(x:Value):Zdg r b (w.setCell p x) v e a:=by
 rcases h with⟨ps,h1,h2,h3,h4⟩|h
 · exact .inl ⟨ps,h1,h2.set h3 hp x,h3,h4⟩
 · exact .inr h
theorem Zdg.more {r:List Pc⊕Nat} {b b':Nat} {w:World} {v:Value} {e a:Int} (h:Zdg r b w v e a)(hb:b'≤b):Zdg r b' w v e a:=by
 rcases h with⟨ps,h1,h2,h3,h4⟩|h
 · exact .inl ⟨ps,h1,h2,fun g hg=>Nat.le_trans hb (h3 g hg),h4⟩
 · exact .inr h
def WkRel (f:List UInt8→Option (List Pc))(t:List UInt8)(w0:World)(v i:Value)(wr:World):Prop:=∃(acc:List Pc) (k fu:Nat),k≤t.length∧i= .int .i64 k∧ZP f (Zv t)=pre acc (ZP f (ZG fu (t.drop k) k))∧t.length - k≤fu∧acc.length≤9*k∧wr.ownsRow (w0.heap.size+1) 167 3 v acc.length (acc.flatMap pcV)∧(acc=[]→v= .slice none 0 0)∧Below (w0.heap.size+1) (w0.alloc (.cells #[.int .i64 0,.int .i64 0] 33)) wr
theorem Zmu:(Tryz.prog.info? 167).map (fun i=>(i.zero,i.size,i.bytes))=some (some (.agg #[.bool false,.string ⟨#[]⟩,.string ⟨#[]⟩]),3,40):=by kernel_rfl
theorem ZfT {w:World} {base:Nat} {v:Value} {n:Nat} {xs:List Value} (h:w.ownsRow base 167 3 v n xs){K:Nat} {cs:Array Value} (hk:w.heap[K]? =some (.cells cs 262 (0,0))):some K≠v.ownBlock:=by
 rcases h.2 with⟨rfl,_⟩|⟨g,cap,cur,rfl,hb,hg,rest⟩
 · simp [Value.ownBlock]
 · simp only [Value.ownBlock,ne_eq,Option.some.injEq];rintro rfl;rw [hg] at hk;injection hk with hk
   injection hk with _ h2 _
   exact absurd h2 (by decide)
theorem Zl6 (w:World)(E:List UInt8):∀(j:Nat) x,[E][j]? =some x→(w.alloc (.cells #[.string (B E)] 9)).cell? ⟨w.heap.size,j,none⟩=some (.string (B x)):=by
 intro j x hx;rw [cell_of_row _ w.heap.size j _ 9 (0,0) (heap_alloc_new w _)];cases j with
 |zero=>simp at hx;subst hx;rfl
 |succ j=>simp at hx
theorem Zmt (ps:List Pc):∀u∈ps.flatMap pcV,u.oneCell'=true:=by
 intro u hu;rw [List.mem_flatMap] at hu;obtain⟨p,_,hp⟩:=hu;simp only [pcV,List.mem_cons,List.not_mem_nil,or_false] at hp;rcases hp with rfl|rfl|rfl<;>rfl
theorem ZuU {f:List UInt8→Option (List Pc)} {t:List UInt8} {acc:List Pc} {k fu:Nat} (hk:k<t.length)(hl:ZP f (Zv t)=pre acc (ZP f (ZG (fu+1) (t.drop k) k))):
 (f (lnT (t.drop k))=none→ZP f (Zv t)= .inr k)∧(∀ps,f (lnT (t.drop k))=some ps→ZP f (Zv t)=pre (acc++ps++Zby (lnE (t.drop k))) (ZP f (ZG fu (t.drop (k+((lnT (t.drop k)).length+(lnE (t.drop k)).length))) (k+((lnT (t.drop k)).length+(lnE (t.drop k)).length))))):=by
 have hne:t.drop k≠[]:=by
  intro e;have:=congrArg List.length e;simp at this;omega
 rw [ZG,if_neg hne] at hl;constructor
 · intro h;rw [hl,ZiR (x:=(lnT (t.drop k),lnE (t.drop k),k)) h];rfl
 · intro ps h;rw [hl,ZiS (x:=(lnT (t.drop k),lnE (t.drop k),k)) h,Zs9,List.drop_drop,List.append_assoc]
def fm5:List UInt8:=[48,48,58,48,48]
def fm8:List UInt8:=[48,48,58,48,48,46,48,48]
def fm9:List UInt8:=[48,48,58,48,48,46,48,48,48]
def Zci (s:List UInt8):Bool:=ZR s fm5||ZR s fm8||ZR s fm9
theorem Zoz (s:ByteArray)(hs:s.size≤100000)(w:World):
 Calls Tryz.prog 361 #[.string s] w fun e w'=>e= .returned (.bool (Zci s.data.toList))∧Below w.heap.size w w':=by
 have h5:∀w,Calls Tryz.prog 118 #[.string s,.string ⟨#[48,48,58,48,48]⟩] w fun e w'=>e= .returned (.bool (ZR s.data.toList fm5))∧Below w.heap.size w w':=fun w=>Zgy s _ (by omega) w;have h8:∀w,Calls Tryz.prog 118 #[.string s,.string ⟨#[48,48,58,48,48,46,48,48]⟩] w fun e w'=>e= .returned (.bool (ZR s.data.toList fm8))∧Below w.heap.size w w':=fun w=>Zgy s _ (by omega) w;have h9:∀w,Calls Tryz.prog 118 #[.string s,.string ⟨#[48,48,58,48,48,46,48,48,48]⟩] w fun e w'=>e= .returned (.bool (ZR s.data.toList fm9))∧Below w.heap.size w w':=fun w=>Zgy s _ (by omega) w;unfold Zci;generalize ZR s.data.toList fm5=a at*;generalize ZR s.data.toList fm8=b at*;generalize ZR s.data.toList fm9=c at*;cases a<;>cases b<;>cases c
 all_goals
  go_enter Tryz.func361,Tryz.ntmps361
  go_wp2_with (go_at_call 118;first|((with_reducible refine(h5 _).mono ?_);clear h5;rintro e w1 ⟨rfl,hb1⟩;have hB:=hb1)|((with_reducible refine(h8 _).mono ?_);clear h8;rintro e w2 ⟨rfl,hb2⟩;replace hB:=hB.trans (hb2.mono hB.size))|((with_reducible refine(h9 _).mono ?_);clear h9;rintro e w3 ⟨rfl,hb3⟩;replace hB:=hB.trans (hb3.mono hB.size)))
  go_ret
  exact⟨rfl,hB⟩
def Zx (s:List UInt8):Nat:=if s.take 1=[91]∧0≤Lib.indexByte (s.take 11) 93∧Zci ((s.take (Lib.indexByte (s.take 11) 93).toNat).drop 1)=true then(Lib.indexByte (s.take 11) 93).toNat+1 else 0
theorem Zll (c:UInt8):∀l:List UInt8,Lib.indexByte l c<l.length
 |[]=>by simp [Lib.indexByte]
 |b::l=>by
  have:=Zll c l;have h2:=Lib.indexByte_ge l c;unfold Lib.indexByte;rw [List.length_cons];split
  · omega
  · split<;>omega
theorem ZhF (c:UInt8):∀l:List UInt8,0≤Lib.indexByte l c→l[(Lib.indexByte l c).toNat]? =some c∧∀j:Nat,(j:Int)<Lib.indexByte l c→l[j]?≠some c
 |[],h=>by simp [Lib.indexByte] at h
 |b::l,h=>by
  have ih:=ZhF c l;have h2:=Lib.indexByte_ge l c;unfold Lib.indexByte at h⊢;by_cases hb:b=c
  · subst hb;simp;intro j hj;omega
  · have e:(b==c)=false:=by simpa using hb
    rw [e] at h⊢;simp only [Bool.false_eq_true,if_false,beq_iff_eq] at h⊢;by_cases h1:Lib.indexByte l c= -1
    · rw [if_pos h1] at h;omega
    · rw [if_neg h1];obtain⟨a1,a2⟩:=ih (by omega);rw [show(Lib.indexByte l c+1).toNat=(Lib.indexByte l c).toNat+1 by omega];refine⟨by simpa using a1,fun j hj=> ?_⟩;cases j with
      |zero=>simpa using hb
      |succ j=>simpa using a2 j (by omega)
theorem pre1 (c:UInt8)(l:List UInt8):Lib.hasPrefix l [c]=true↔l.take 1=[c]:=by
 unfold Lib.hasPrefix;cases l with
 |nil=>simp [List.isPrefixOf]
 |cons b l=>
  simp only [List.isPrefixOf,Bool.and_true,beq_iff_eq,List.take_succ_cons,List.take_zero,List.cons.injEq,and_true];exact eq_comm
theorem ZmB {c:UInt8} {l:List UInt8} (h:Lib.hasPrefix l [c]=false):¬l.take 1=[c]:=fun e=>by
 rw [(pre1 c l).2 e] at h;cases h
theorem Zhk (s:ByteArray)(a b:Nat):(s.extract a b).data.toList=(s.data.toList.take b).drop a:=by
 conv=>lhs;rw [Zcr s,Zgn,ZQ]
def tmI (l:List UInt8):Int:=Lib.indexByte (l.take 11) 93
theorem Znt {l:List UInt8} (hp:l.take 1=[91])(h:0≤tmI l):1≤tmI l∧tmI l<11∧tmI l<l.length:=by
 have h1:=ZhF 93 (l.take 11) h;have h2:=Zll 93 (l.take 11);rw [List.length_take] at h2;have h3:tmI l≠0:=by
  intro e;have e2:Lib.indexByte (l.take 11) 93=0:=e;rw [e2] at h1;have:=h1.1;cases l with
  |nil=>simp at hp
  |cons b l=>simp at hp this;rw [hp] at this;exact absurd this (by decide)
 unfold tmI at*;omega
theorem Zgd (l:List UInt8):Zx l=if l.take 1=[91]∧0≤tmI l∧Zci ((l.take (tmI l).toNat).drop 1)=true then(tmI l).toNat+1 else 0:=rfl
theorem strI (s:ByteArray)(m:Nat)(hm:s.data.toList.take m=s.data.toList.take 11)(w:World):
 Calls Tryz.prog 360 #[.string (s.extract 0 m),.string ⟨#[93]⟩] w fun e w'=>e= .returned (.int .i64 (tmI s.data.toList))∧w=w':=by
 refine(Tryz.strings_Index_one (s.extract 0 m) 93 w).mono ?_;rintro e w' ⟨rfl,rfl⟩;refine⟨?_,rfl⟩;rw [Zhk,List.drop_zero,hm];rfl
theorem Zst (s:ByteArray)(hs:s.size≤100000)(w:World):
 Calls Tryz.prog 313 #[.string s] w fun e w'=>e= .returned (.int .i64 (Zx s.data.toList))∧Below w.heap.size w w':=by
 have hpf:∀w,Calls Tryz.prog 56 #[.string s,.string ⟨#[91]⟩] w fun e w'=>e= .returned (.bool (Lib.hasPrefix s.data.toList [91]))∧w=w':=fun w=>(Tryz.strings_HasPrefix s ⟨#[91]⟩ w).mono fun e w' h=>⟨h.1,h.2.symm⟩
 have hlen:=ZaR s;cases hp:Lib.hasPrefix s.data.toList [91]
 · have h0:=Lib.hid (show Zx s.data.toList=0 by rw [Zgd,if_neg (fun h=>ZmB hp h.1)]);rw [hp] at hpf;clear hp hlen;go_enter Tryz.func313,Tryz.ntmps313
   go_wp2_with (go_at_call 56;refine(hpf _).mono ?_;rintro e w1 ⟨rfl,rfl⟩)
   go_ret
   rw [h0.out];exact⟨rfl,Below.refl _ _⟩
 · rw [hp] at hpf;have hp1:=(pre1 _ _).1 hp;have hmt:s.data.toList.take (min (s.size:Int) 11).toNat=s.data.toList.take 11:=by
    by_cases h:s.size≤11
    · rw [List.take_of_length_le (by omega),List.take_of_length_le (by omega)]
    · rw [show(min (s.size:Int) 11).toNat=11 by omega]
   have hI:=fun w=>strI s (min (s.size:Int) 11).toNat hmt w;have hT:=Zgd s.data.toList;have hpos:=Znt hp1;have hmom:=fun w=>Zoz (s.extract 1 (tmI s.data.toList).toNat) (by simp;omega) w;rw [Zhk] at hmom;rw [hlen] at hpos;have hge: -1≤tmI s.data.toList:=Lib.indexByte_ge _ _;by_cases h0:tmI s.data.toList<0
   · have Hr:=Lib.hid (show Zx s.data.toList=0 by rw [hT,if_neg (fun h=>by omega)]);clear hT hmt hlen hp hp1 hmom hpos;generalize tmI s.data.toList=q at*;go_enter Tryz.func313,Tryz.ntmps313
     go_wp2_with (first|(go_at_call 56;refine(hpf _).mono ?_;rintro e w1 ⟨rfl,rfl⟩)|(go_at_call 360;refine(hI _).mono ?_;rintro e w1 ⟨rfl,rfl⟩))
     go_ret
     rw [Hr.out];exact⟨rfl,Below.refl _ _⟩
   · obtain⟨q1,q2,q3⟩:=hpos (by omega);obtain⟨q,hq⟩:∃q:Nat,tmI s.data.toList=q:=⟨(tmI s.data.toList).toNat,by omega⟩
     rw [hq] at hmom hI hT q1 q2 q3;rw [Int.toNat_natCast] at hmom hT;cases hb:Zci ((s.data.toList.take q).drop 1)
     · have Hr:=Lib.hid (show Zx s.data.toList=0 by rw [hT,if_neg (fun h=>by rw [hb] at h;simp at h)]);rw [hb] at hmom;clear hT hmt hlen hp hp1 hpos hb hq h0 hge;go_enter Tryz.func313,Tryz.ntmps313
       go_wp2_with (first|(go_at_call 56;refine(hpf _).mono ?_;rintro e w1 ⟨rfl,rfl⟩)|(go_at_call 360;refine(hI _).mono ?_;rintro e w1 ⟨rfl,rfl⟩)|(go_at_call 361;refine(hmom _).mono ?_;rintro e w2 ⟨rfl,hb2⟩))
       go_ret
       rw [Hr.out];exact⟨rfl,hb2⟩
     · have Hr:=Lib.hid (show Zx s.data.toList=q+1 by rw [hT,if_pos ⟨hp1,by omega,hb⟩]);rw [hb] at hmom;clear hT hmt hlen hp hp1 hpos hb hq h0 hge;go_enter Tryz.func313,Tryz.ntmps313
       go_wp2_with (first|(go_at_call 56;refine(hpf _).mono ?_;rintro e w1 ⟨rfl,rfl⟩)|(go_at_call 360;refine(hI _).mono ?_;rintro e w1 ⟨rfl,rfl⟩)|(go_at_call 361;refine(hmom _).mono ?_;rintro e w2 ⟨rfl,hb2⟩))
       go_ret
       rw [Hr.out];exact⟨rfl,hb2⟩
theorem ZfJ (c:UInt8)(hc:Zdl c=false):∀s f:List UInt8,ZR s f=true→c∉f→c∉s
 |[],_,_,_=>by simp
 |a::s,[],h,_=>by simp [ZR] at h
 |a::s,b::f,h,hn=>by
  simp only [ZR,Bool.and_eq_true] at h;simp only [List.mem_cons,not_or] at hn⊢;refine⟨?_,ZfJ c hc s f h.2 hn.2⟩;intro e;have h1:=h.1;split at h1
  · rw [←e,hc] at h1;cases h1
  · have:a=b:=by simpa using h1
    exact hn.1 (e.trans this)
theorem Zss {m:List UInt8} (h:Zci m=true):(m.length=5∨m.length=8∨m.length=9)∧93∉m:=by
 unfold Zci at h;simp only [Bool.or_eq_true] at h;rcases h with(h|h)|h
 · exact⟨.inl (ZeB _ _ h),ZfJ 93 (by decide) _ _ h (by decide)⟩
 · exact⟨.inr (.inl (ZeB _ _ h)),ZfJ 93 (by decide) _ _ h (by decide)⟩
 · exact⟨.inr (.inr (ZeB _ _ h)),ZfJ 93 (by decide) _ _ h (by decide)⟩
theorem Znp (l:List UInt8):Zx l=0∨(7≤Zx l∧Zx l≤11∧Zx l≤l.length):=by
 by_cases h:l.take 1=[91]∧0≤tmI l∧Zci ((l.take (tmI l).toNat).drop 1)=true
 · right
   rw [Zgd,if_pos h];obtain⟨a,b,c⟩:=h;have hp:=Znt a b;have hm:=(Zss c).1;rw [List.length_drop,List.length_take] at hm;omega
 · left
   rw [Zgd,if_neg h]
theorem get_eq (s:ByteArray)(i:Nat)(h:i<s.size)(c:UInt8):s.data.toList[i]? =some c↔s[i]=c:=by
 rw [List.getElem?_eq_getElem (by rw [ZaR];exact h)];constructor
 · intro e;exact Option.some.inj e
 · intro e;exact congrArg some e
end Go.Proofs.YtlfinljfghhpdaaGreatDoor
namespace Go.Proofs.YtlfinljfghhpdaaGreatDoor
open Go
inductive Pl where
 |nil
 |one (i:Nat) (still:Bool) (r:Pl)
 |two (i j:Nat) (p q:Pl)
def Pl.depth:Pl→Nat
 | .nil=>0
 | .one _ _ r=>r.depth+1
 | .two _ _ p q=>max p.depth q.depth+1
def Zck (ops:Array Oper):Pl→Array Bool→Bool
 | .nil,listed=>(Region.ready .any ops listed).isEmpty
 | .one i true r,listed=>(Region.ready .any ops listed).contains i&&Region.free .any ops listed i&&Zck ops r (listed.setIfInBounds i true)
 | .one i false r,listed=>(Region.ready .any ops listed==[i])&&Zck ops r (listed.setIfInBounds i true)
 | .two i j p q,listed=>(Region.ready .any ops listed==[i,j])&&Zck ops p (listed.setIfInBounds i true)&&Zck ops q (listed.setIfInBounds j true)
section
variable {P:Program} {l:List Oper} {Q:Exit→Act→World→Prop} {S:World→Prop}
def ZcM (P:Program)(l:List Oper)(Q:Exit→Act→World→Prop)(S:World→Prop)(i:Nat)(R:Act→World→Prop)(a:Act)(w:World):Prop:=
 ∃o,Zbh l i=some o∧(if Region.wanted o (yielded l.toArray a.tmps)=true then o.wp P a w (fun a' w'=>S w'∧R a' w') Q else R (a.put o.dst undef) w)
def Zbp (P:Program)(l:List Oper)(Q:Exit→Act→World→Prop)(S:World→Prop):Pl→Act→World→Prop
 | .nil,a,w=>Q .normal a w
 | .one i true r,a,w=>∃o v,Zbh l i=some o∧YieldsIf P l.toArray S o v a∧Zbp P l Q S r (a.put o.dst v) w
 | .one i false r,a,w=>ZcM P l Q S i (Zbp P l Q S r) a w
 | .two i j p q,a,w=>ZcM P l Q S i (Zbp P l Q S p) a w∧ZcM P l Q S j (Zbp P l Q S q) a w
theorem Zh2 {i:Nat} {R R':Act→World→Prop} {a:Act} {w:World} (h:ZcM P l Q S i R a w)(hS:S w)(hR:∀a w,S w→R a w→R' a w):
 ZcM P l Q S i R' a w:=by
 obtain⟨o,ho,hr⟩:=h;refine⟨o,ho,?_⟩;split
 · rename_i hw
   rw [if_pos hw] at hr;exact Oper.wp_mono (fun a' w' hh=>⟨hh.1,hR _ _ hh.1 hh.2⟩) hr
 · rename_i hw
   rw [if_neg hw] at hr;exact hR _ _ hS hr
theorem Zeo (hsel:Region.noSelect l.toArray=true)(hQ:∀c (a:Act) d v w,Q (.panic c) (a.put d v) w→Q (.panic c) a w):
 ∀(pl:Pl) (fuel:Nat) (listed:Array Bool) (a:Act) (w:World),Zck l.toArray pl listed=true→pl.depth≤fuel→S w→Zbp P l Q S pl a w→wpAnyH P .any l.toArray Q S fuel listed a w
 | .nil,fuel,listed,a,w,hok,_,_,h=>wpAnyH_done (by simpa [Zck] using hok) h fuel
 | .one i b r,0,listed,a,w,hok,hf,hS,h=>by simp [Pl.depth] at hf
 | .two i j p q,0,listed,a,w,hok,hf,hS,h=>by simp [Pl.depth] at hf
 | .one i true r,fuel+1,listed,a,w,hok,hf,hS,h=>by
  obtain⟨o,v,ho,hy,hr⟩:=h;simp only [Zck,Bool.and_eq_true] at hok;obtain⟨⟨h1,h2⟩,h3⟩:=hok;rw [Zdy] at ho;exact wpAnyH_take ho hsel h2 h1 (fun c a w=>hQ c a _ _ w) hy hS (Zeo hsel hQ r fuel _ _ w h3 (by simpa [Pl.depth] using hf) hS hr)
 | .one i false r,fuel+1,listed,a,w,hok,hf,hS,h=>by
  simp only [Zck,Bool.and_eq_true,beq_iff_eq] at hok;obtain⟨h1,h3⟩:=hok;refine wpAnyH_all h1 (by simp) fun j hj=> ?_;have hj':j=i:=by simpa using hj
  subst hj';obtain⟨o,ho,hr⟩:=Zh2 h hS (fun a w hS hr=>Zeo hsel hQ r fuel _ a w h3 (by simpa [Pl.depth] using hf) hS hr);rw [Zdy] at ho;unfold wpOp;rw [ho];simp only;split
  · rename_i hw
    rw [if_pos hw] at hr;exact .inl hr
  · rename_i hw
    rw [if_neg hw] at hr;exact⟨hS,hr⟩
 | .two i k p q,fuel+1,listed,a,w,hok,hf,hS,h=>by
  simp only [Zck,Bool.and_eq_true,beq_iff_eq] at hok;obtain⟨⟨h1,h3⟩,h4⟩:=hok;have hd:max p.depth q.depth≤fuel:=by simpa [Pl.depth] using hf
  refine wpAnyH_all h1 (by simp) fun j hj=> ?_;have hj':j=i∨j=k:=by simpa using hj
  rcases hj' with rfl|rfl
  · obtain⟨o,ho,hr⟩:=Zh2 h.1 hS (fun a w hS hr=>Zeo hsel hQ p fuel _ a w h3 (by omega) hS hr);rw [Zdy] at ho;unfold wpOp;rw [ho];simp only;split
    · rename_i hw
      rw [if_pos hw] at hr;exact .inl hr
    · rename_i hw
      rw [if_neg hw] at hr;exact⟨hS,hr⟩
  · obtain⟨o,ho,hr⟩:=Zh2 h.2 hS (fun a w hS hr=>Zeo hsel hQ q fuel _ a w h4 (by omega) hS hr);rw [Zdy] at ho;unfold wpOp;rw [ho];simp only;split
    · rename_i hw
      rw [if_pos hw] at hr;exact .inl hr
    · rename_i hw
      rw [if_neg hw] at hr;exact⟨hS,hr⟩
theorem ZeX {id:Nat} {a:Act} {w:World} (S:World→Prop)(pl:Pl)(hm:P.follows .mixedOrders=true)(hsel:Region.noSelect l.toArray=true)
 (hok:Zck l.toArray pl (Array.replicate l.toArray.size false)=true) (hlen:pl.depth≤l.toArray.size)
 (hQ:∀c (a:Act) d v w,Q (.panic c) (a.put d v) w→Q (.panic c) a w) (hS:S w.drew) (h:Zbp P l Q S pl a w.drew):(Code.region id l.toArray true).wp P Q a w:=
 wp_region_held_drew hm hS fun hS=>Zeo hsel hQ pl _ _ a w.drew hok hlen hS h
theorem Zc3 {a:Act} {w:World} (h:Q .normal a w):Zbp P l Q S .nil a w:=h
theorem Zg {i:Nat} {r:Pl} {o:Oper} {a:Act} {w:World} (ho:Zbh l i=some o)(hw:Region.wanted o (yielded l.toArray a.tmps)=true)(v:Value)(hv:∀w,S w→(execOp a.eval o).run P w= .ok (.value v) w)(h:Zbp P l Q S r (a.put o.dst v) w):Zbp P l Q S (.one i true r) a w:=
 ⟨o,v,ho,.inl ⟨hw,hv⟩,h⟩
theorem ZU {i:Nat} {R:Act→World→Prop} {o:Oper} {a:Act} {w:World} (ho:Zbh l i=some o)(hw:Region.wanted o (yielded l.toArray a.tmps)=true)
 (h:∀K:Act→World→Prop,Shut (∀a w,S w→R a w→K a w)→o.wp P a w K Q):ZcM P l Q S i R a w:=
 ⟨o,ho,by rw [if_pos hw];exact h _ (fun a w hS hr=>⟨hS,hr⟩)⟩
theorem Zaf {i:Nat} {r:Pl} {a:Act} {w:World} (h:ZcM P l Q S i (Zbp P l Q S r) a w):Zbp P l Q S (.one i false r) a w:=h
theorem Zh6 {i j:Nat} {p q:Pl} {a:Act} {w:World} (h1:ZcM P l Q S i (Zbp P l Q S p) a w)(h2:ZcM P l Q S j (Zbp P l Q S q) a w):Zbp P l Q S (.two i j p q) a w:=⟨h1,h2⟩
end
end Go.Proofs.YtlfinljfghhpdaaGreatDoor
