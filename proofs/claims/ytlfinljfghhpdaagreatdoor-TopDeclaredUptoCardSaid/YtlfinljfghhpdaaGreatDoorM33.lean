/- Lemmas for a statement on the tops; conditions: as each says. -/
import Derived.Lib.ConvBytes
import Derived.Test.YtlfinljfghhpdaaGreatDoorM32
set_option linter.unusedVariables false
set_option linter.unusedSimpArgs false
set_option maxRecDepth 100000
set_option maxHeartbeats 4000000
namespace Go.Proofs.YtlfinljfghhpdaaGreatDoor
open Go Go.RowKit
theorem Zuk {f:Nat} {r:List UInt8} (h:Zx r≠0):ZS (f+1) r=(mk (r.take (Zx r))::(ZS f (r.drop (Zx r))).1,(ZS f (r.drop (Zx r))).2):=by
 rw [ZS,if_neg h]
theorem Zj5 {w w1 w2:World} (h1:Below w.heap.size w w1)(h2:Below w1.heap.size w1 w2):Below w.heap.size w w2:=h1.trans (h2.mono h1.size)
def t26:List UInt8:=[91,48,48,58,48,49,46,48,48,93,91,48,48,58,48,50,93,108,97,10,91,116,105,58,120,93]
theorem Zgj (a b:List Pc):Z7 (a++b)=Z7 a++Z7 b:=by simp [Z7]
theorem ZnF (x:List UInt8):Z7 [mk x]=x:=by simp [Z7,mk]
theorem Znr:∀(f:Nat) (r:List UInt8),Z7 (ZS f r).1++(ZS f r).2=r
 |0,r=>by simp [ZS,Z7]
 |f+1,r=>by
  by_cases h:Zx r=0
  · rw [Znq _ _ h];simp [Z7]
  · rw [Zuk h];have:=Znr f (r.drop (Zx r));show Z7 ([mk (r.take (Zx r))]++(ZS f (r.drop (Zx r))).1)++_=r
    rw [Zgj,ZnF,List.append_assoc,this,List.take_append_drop]
theorem ZsA (l:List UInt8)(ps:List Pc)(h:Za3 l=some ps):Z7 ps=l:=by
 unfold Za3 at h;split at h
 · rename_i hc
   obtain⟨h1,h2,h3,h4⟩:=hc;obtain⟨a1,a2,a3⟩:=Zlk h1 h2;have hn:nmN l+1≤l.length - 1:=by
    have:nmN l≠l.length - 1:=fun e=>by rw [e,a2] at h4;cases h4
    omega
   injection h with h
   subst h;have e1:l.take (nmN l+1)=(l.take (l.length - 1)).take (nmN l+1):=by rw [List.take_take,Nat.min_eq_left hn]
   have hl:l.length - 1<l.length:=by omega
   have e2:l.take (l.length - 1)++[93]=l:=by
    have:=List.take_add_one (l:=l) (i:=l.length - 1);rw [a2,show l.length - 1+1=l.length by omega,List.take_length] at this;simpa using this.symm
   simp only [Z7,mk,List.map_cons,List.map_nil,List.flatten_cons,List.flatten_nil,List.append_nil];rw [←List.append_assoc,e1,List.take_append_drop,e2]
 · cases h
theorem Zsk (s:List UInt8)(ps:List Pc)(h:Z4 s=some ps):Z7 ps=s:=by
 unfold Z4 at h;split at h
 · rename_i h0;injection h with h;subst h h0;rfl
 · split at h
   · exact ZsA s ps h
   · injection h with h
     subst h;have:=Znr s.length s;rw [Zgj];unfold ZdH;split
     · rename_i e;rw [e] at this;simpa [Z7] using this
     · simpa [Z7] using this
def wt:List Ln→Nat
 |[]=>0
 |x::l=>4*x.1.length+4+(Zby x.2.1).length+wt l
theorem Zrn (e:List UInt8):(Zby e).length≤1∧(Zby e).length≤e.length:=by
 unfold Zby;split
 · simp
 · rename_i h;cases e with|nil=>exact absurd rfl h|cons _ _=>simp
theorem ZiY:∀(f:Nat) (r:List UInt8) (i:Nat),wt (ZG f r i)≤9*r.length
 |0,r,i=>by simp [ZG,wt]
 |f+1,r,i=>by
  unfold ZG;split
  · simp [wt]
  · rename_i h
    have h1:=Zft h;have h2:=ZfL r;have h3:=Zrn (lnE r);have h4:=ZiY f (r.drop ((lnT r).length+(lnE r).length)) (i+((lnT r).length+(lnE r).length));rw [List.length_drop] at h4;simp only [wt];omega
theorem ZnL (f:List UInt8→Option (List Pc))(hf:∀s ps,f s=some ps→ps.length≤4*s.length+4):∀(l:List Ln) (ps:List Pc),ZP f l= .inl ps→ps.length≤wt l
 |[],ps,h=>by simp [ZP] at h;subst h;simp
 |x::l,ps,h=>by
  cases hx:f x.1 with
  |none=>rw [ZiR hx] at h;cases h
  |some qs=>
   rw [ZiS hx] at h;have h1:=hf _ _ hx;cases hw:ZP f l with
   |inr a=>rw [hw] at h;cases h
   |inl rs=>
    rw [hw] at h;have h2:=ZnL f hf l rs hw;injection h with h
    subst h;simp only [wt,List.length_append];omega
theorem ZnJ:∀(l:List Ln) (k:Nat) (x:Ln),l[k]? =some x→l.drop k=x::l.drop (k+1)
 |[],k,x,h=>by simp at h
 |y::l,0,x,h=>by simp at h;subst h;rfl
 |y::l,k+1,x,h=>by simpa using ZnJ l k x (by simpa using h)
theorem ZnK:∀(l:List Ln),4*l.length≤wt l
 |[]=>by simp [wt]
 |x::l=>by have:=ZnK l;simp only [wt,List.length_cons];omega
theorem rowsG {α:Type} {f:α→List Value} {v:Value} {ps:List α} {w:World} (hv:ZB f w v ps):∃(A:Option Addr) (c:Nat),v= .slice A ps.length c∧ps.length≤c∧(0<ps.length→∃bk,A=some ⟨bk,0,none⟩∧bk<w.heap.size∧∀j u,(ps.flatMap f)[j]? =some u→w.cell? ⟨bk,j,none⟩=some u):=by
 rcases hv with⟨rfl,rfl⟩|⟨bk,c,h0,rfl,h2,h3,h4⟩
 · exact⟨none,0,rfl,by simp,fun h=>by simp at h⟩
 · exact⟨_,c,rfl,h2,fun _=>⟨bk,rfl,h3,h4⟩⟩
def pCs:List UInt8:=[91,99,115,58]
def csN (T:List UInt8):Option (List UInt8):=if Lib.hasPrefix T pCs=true∧Lib.hasSuffix (T.drop 4) [93]=true then some ((T.drop 4).take (T.length - 5)) else none
def ZbW:List Ln→List UInt8
 |[]=>[]
 |x::l=>(csN x.1).getD (ZbW l)
def DcRel (L:List Ln)(w0:World)(i:Value)(wr:World):Prop:=∃k:Nat,k≤L.length∧i= .int .i64 k∧ZbW L=ZbW (L.drop k)∧Below w0.heap.size w0 wr
theorem ZlC:∀(f:Nat) (r:List UInt8) (i:Nat),∀x∈ZG f r i,x.1.length≤r.length
 |0,r,i,x,h=>by simp [ZG] at h
 |f+1,r,i,x,h=>by
  unfold ZG at h;split at h
  · simp at h
  · have h2:=ZfL r;rcases List.mem_cons.1 h with rfl|h
    · show(lnT r).length≤_;omega
    · have:=ZlC f _ _ x h;rw [List.length_drop] at this;omega
theorem Zog (s:ByteArray)(hs:s.size≤1000000)(w:World):
 Calls Tryz.prog 154 #[.string s] w fun e w'=>e= .returned (.string (B (ZbW (Zv s.data.toList))))∧Below w.heap.size w w':=by
 have hl0:=ZaR s;have hmem:∀x∈Zv s.data.toList,x.1.length≤s.size:=fun x hx=>by have:=ZlC _ _ _ x hx;omega
 have hln:(Zv s.data.toList).length≤9*s.size:=by have:=ZiY s.data.toList.length s.data.toList 0;have h2:=ZnK (Zv s.data.toList);unfold Zv at h2⊢;omega
 have hrl:=fun w=>Zox s hs w;unfold ZdJ at hrl;generalize Zv s.data.toList=L at*;have Hmem:=Lib.hid hmem;clear hmem;go_enter Tryz.func154,Tryz.ntmps154
 go_wp2_with (go_at_call 228;refine(hrl _).mono ?_;rintro e w0 ⟨v,rfl,hr,hb0⟩;obtain⟨A,c,rfl,hc,hA⟩:=rowsG hr;have HA:=Lib.hid hA;clear hA)
 go_loopw [12] (fun i wr=>DcRel L w0 i wr) (fun i _=>L.length - (intOf i).toNat)
 case atStart=>exact⟨0,by omega,rfl,by simp,Below.refl _ _⟩
 case round=>
  obtain⟨k,hk,rfl,hl,hb⟩:=hrel;have hz:=hb.size;by_cases hlt:k<L.length
  · obtain⟨bk,rfl,hbk,hcell⟩:=HA.out (by omega);obtain⟨⟨T,E,q⟩,hx⟩:∃x,L[k]? =some x:=⟨L[k],List.getElem?_eq_getElem hlt⟩
    have hT:T.length≤s.size:=Hmem.out _ (List.mem_of_getElem? hx);obtain⟨c0,c1,c2⟩:=ZB.at_ (f:=lnV) (fun _=>rfl) hcell hx rfl;have d0:=(hb.cell (p:=⟨bk,k*3,none⟩) hbk).trans c0;have d1:=(hb.cell (p:=⟨bk,k*3+1,none⟩) hbk).trans c1;have d2:=(hb.cell (p:=⟨bk,k*3+2,none⟩) hbk).trans c2;have hd:=ZnJ L k _ hx;rw [hd] at hl;have hsT:=Zy T;clear c0 c1 c2 hcell hd;have hp:=fun w=>Tryz.strings_CutPrefix (B T) ⟨#[91,99,115,58]⟩ w;rw [ZQ] at hp;have hsx:=fun w=>Tryz.strings_CutSuffix (B (T.drop 4)) ⟨#[93]⟩ w (by rw [Zy,List.length_drop];omega);rw [ZQ] at hsx;simp only [ZbW] at hl;cases h1:Lib.hasPrefix T pCs with
    |false=>
     have hcs:csN T=none:=by unfold csN;rw [h1];simp
     rw [hcs] at hl;have Hl:=Lib.hid hl;clear hl;have hp2:∀w,Calls Tryz.prog 229 #[.string (B T),.string ⟨#[91,99,115,58]⟩] w fun e w'=>e= .returned (.tuple #[.string (B (Lib.trimPrefix T pCs)),.bool false])∧w'=w:=fun w=>by rw [←h1];exact hp w
     clear hp;go_wp2_with (go_at_call 229;refine(hp2 _).mono ?_;rintro e w1 ⟨rfl,rfl⟩)
     go_roundw
     case rel=>exact⟨k+1,by omega,by simp,by simpa using Hl.out,hb.alloc (by omega) _⟩
     case measure=>simp [intOf];omega
    |true=>
     have htp:Lib.trimPrefix T pCs=T.drop 4:=by unfold Lib.trimPrefix;rw [h1];rfl
     have hp2:∀w,Calls Tryz.prog 229 #[.string (B T),.string ⟨#[91,99,115,58]⟩] w fun e w'=>e= .returned (.tuple #[.string (B (T.drop 4)),.bool true])∧w'=w:=fun w=>by rw [←h1,←htp];exact hp w
     clear hp;cases h2:Lib.hasSuffix (T.drop 4) [93] with
     |false=>
      have hcs:csN T=none:=by unfold csN;rw [h2];simp
      rw [hcs] at hl;have Hl:=Lib.hid hl;clear hl;have hs2:∀w,Calls Tryz.prog 230 #[.string (B (T.drop 4)),.string ⟨#[93]⟩] w fun e w'=>e= .returned (.tuple #[.string (B (Lib.trimSuffix (T.drop 4) [93])),.bool false])∧w'=w:=fun w=>by rw [←h2];exact hsx w
      clear hsx;go_wp2_with (first|(go_at_call 229;refine(hp2 _).mono ?_;rintro e w1 ⟨rfl,rfl⟩)|(go_at_call 230;refine(hs2 _).mono ?_;rintro e w1 ⟨rfl,rfl⟩))
      go_roundw
      case rel=>exact⟨k+1,by omega,by simp,by simpa using Hl.out,hb.alloc (by omega) _⟩
      case measure=>simp [intOf];omega
     |true=>
      have hcs:csN T=some ((T.drop 4).take (T.length - 5)):=by unfold csN;rw [h1,h2];simp
      rw [hcs] at hl;have Hl:=Lib.hid hl;clear hl;have hts:Lib.trimSuffix (T.drop 4) [93]=(T.drop 4).take (T.length - 5):=by unfold Lib.trimSuffix;rw [h2,if_pos rfl,List.length_drop];congr 1
      have hs2:∀w,Calls Tryz.prog 230 #[.string (B (T.drop 4)),.string ⟨#[93]⟩] w fun e w'=>e= .returned (.tuple #[.string (B ((T.drop 4).take (T.length - 5))),.bool true])∧w'=w:=fun w=>by rw [←h2,←hts];exact hsx w
      clear hsx;go_wp2_with (first|(go_at_call 229;refine(hp2 _).mono ?_;rintro e w1 ⟨rfl,rfl⟩)|(go_at_call 230;refine(hs2 _).mono ?_;rintro e w1 ⟨rfl,rfl⟩))
      go_ret
      refine⟨?_,Zj5 hb0 (hb.alloc (by omega) _)⟩;rw [Hl.out];rfl
  · have hk2:k=L.length:=by omega
    have He:=Lib.hid (show ZbW L=[] by rw [hl,List.drop_of_length_le (by omega)];rfl);clear hl;go_wp2_with fail
    go_ret
    refine⟨?_,Zj5 hb0 hb⟩;rw [He.out];rfl
theorem ZlD:∀(f:Nat) (r:List UInt8) (i:Nat),r.length≤f→((ZG f r i).map fun x:Ln=>x.1++x.2.1).flatten=r
 |0,r,i,h=>by
  have:r=[]:=List.eq_nil_of_length_eq_zero (by omega);subst this;simp [ZG]
 |f+1,r,i,h=>by
  unfold ZG;split
  · rename_i e;simp [e]
  · rename_i e
    have h1:=Zft e;obtain⟨t,ht⟩:=ZhO r;rw [←List.append_assoc] at ht;have hd:r.drop ((lnT r).length+(lnE r).length)=t:=by
     conv=>lhs;arg 2;rw [ht]
     rw [←List.length_append];exact List.drop_left
    rw [hd];have hl:=congrArg List.length ht;simp only [List.length_append] at hl;have:=ZlD f t (i+((lnT r).length+(lnE r).length)) (by omega);simp only [List.map_cons,List.flatten_cons,this];exact ht.symm
theorem ZnB (f:List UInt8→Option (List Pc))(hf:∀s ps,f s=some ps→Z7 ps=s):∀(l:List Ln) (ps:List Pc),ZP f l= .inl ps→Z7 ps=(l.map fun x:Ln=>x.1++x.2.1).flatten
 |[],ps,h=>by simp [ZP] at h;subst h;rfl
 |x::l,ps,h=>by
  cases hx:f x.1 with
  |none=>rw [ZiR hx] at h;cases h
  |some qs=>
   rw [ZiS hx] at h;cases hw:ZP f l with
   |inr a=>rw [hw] at h;cases h
   |inl rs=>
    rw [hw] at h;injection h with h
    subst h;have h2:=ZnB f hf l rs hw;have h3:Z7 (Zby x.2.1)=x.2.1:=by
     unfold Zby;by_cases e:x.2.1=[]
     · rw [if_pos e,e];rfl
     · rw [if_neg e];exact ZnF _
    rw [Zgj,Zgj,hf _ _ hx,h3,h2];simp
theorem ZuP (f:List UInt8→Option (List Pc))(hf:∀s ps,f s=some ps→Z7 ps=s)(t:List UInt8)(ps:List Pc)(h:ZP f (Zv t)= .inl ps):Z7 ps=t:=by
 rw [ZnB f hf _ _ h];exact ZlD _ _ _ (Nat.le_refl _)
theorem Zs3 (t:List UInt8)(ps:List Pc)(h:ZP Z4 (Zv t)= .inl ps):ps.length≤9*t.length:=by
 have h1:=ZnL Z4 ZlG _ _ h;have h2:=ZiY t.length t 0;unfold Zv at h1;omega
def nmC (c:Nat):List UInt8:=(Zau.getD c []).getD 0 []
def ln1 (c:Nat):List UInt8:=[91,99,115,58]++(nmC c++[93])
def tm1:List UInt8:=[91,48,48,58,48,49,46,48,48,93]
def Zd (c:Nat):List UInt8:=ln1 c++(10::tm1)
theorem Zch {c:Nat} (hc:c≤6):(ln1 c).all Zaj=true∧csN (ln1 c)=some (nmC c)∧(Z4 (ln1 c)).isSome=true∧(ln1 c).length≤20∧(Zd c).all (fun x=>decide (x.toNat<128))=true∧ZcY (nmC c)=some c∧(nmC c).length≤20:=by
 have h:(List.range 7).all (fun c=>(ln1 c).all Zaj&&(csN (ln1 c)==some (nmC c)&&((Z4 (ln1 c)).isSome&&(decide ((ln1 c).length≤20)&&((Zd c).all (fun x=>decide (x.toNat<128))&&(ZcY (nmC c)==some c&&decide ((nmC c).length≤20)))))))=true:=by decide+kernel
 have:=List.all_eq_true.1 h c (List.mem_range.2 (by omega));simpa [Bool.and_eq_true,and_assoc] using this
theorem Zsf {a r:List UInt8} (h:a.all Zaj=true)(x:UInt8)(hx:Zaj x=false):lnT (a++x::r)=a:=by
 unfold lnT;induction a with
 |nil=>simp [hx]
 |cons y a ih=>
  simp only [List.all_cons,Bool.and_eq_true] at h;rw [List.cons_append,List.takeWhile_cons,if_pos h.1,ih h.2]
theorem Zk6 {c:Nat} (hc:c≤6)(r:List UInt8):∃l,Zv (Zd c++r)=(ln1 c,[10],0)::l∧l=ZG ((Zd c++r).length - 1) (tm1++r) ((ln1 c).length+1):=by
 obtain⟨h1,_⟩:=Zch hc;have e:Zd c++r=ln1 c++10::(tm1++r):=by unfold Zd;simp
 have hl:(Zd c++r).length=((Zd c++r).length - 1)+1:=by rw [e];simp;omega
 refine⟨_,?_,rfl⟩;unfold Zv;rw [hl,ZG,if_neg (by rw [e];simp)];have hT:lnT (Zd c++r)=ln1 c:=by rw [e];exact Zsf h1 10 (by decide)
 have hE:lnE (Zd c++r)=[10]:=by
  unfold lnE;rw [hT,e,List.drop_left];show Zbz (10::(tm1++r))=[10]
  unfold Zbz;split
  · next h=>simp [tm1] at h
  · next h=>injection h with h;rw [h]
  · next h=>cases h
 rw [hT,hE];have hd:(Zd c++r).drop ((ln1 c).length+[(10:UInt8)].length)=tm1++r:=by
  rw [e,show ln1 c++10::(tm1++r)=(ln1 c++[10])++(tm1++r) by simp];exact List.drop_left' (by simp)
 rw [hd];simp
theorem Zq6 {c:Nat} (hc:c≤6)(r:List UInt8):ZbW (Zv (Zd c++r))=nmC c:=by
 obtain⟨l,h,_⟩:=Zk6 hc r;rw [h,ZbW,(Zch hc).2.1];rfl
theorem Zuj (t:List UInt8):Zx (tm1++t)=10:=by
 have h1:(tm1++t).take 1=[91]:=rfl;have h2:Lib.indexByte ((tm1++t).take 11) 93=9:=by
  have e:(tm1++t).take 11=tm1++t.take 1:=by
   cases t<;>rfl
  rw [e];cases t with
  |nil=>decide
  |cons x r=>simp [tm1,Lib.indexByte]
 have h3:Zci (((tm1++t).take (Lib.indexByte ((tm1++t).take 11) 93).toNat).drop 1)=true:=by
  rw [h2];show Zci (((tm1++t).take 9).drop 1)=true
  have e:(tm1++t).take 9=[91,48,48,58,48,49,46,48,48]:=rfl;rw [e];decide
 unfold Zx;rw [if_pos ⟨h1,by rw [h2];decide,h3⟩,h2];rfl
theorem Zsl (t:List UInt8):∃ps,Z4 (tm1++t)=some ps:=by
 have ht:=Zuj t;have hf:(ZS (tm1++t).length (tm1++t)).1≠[]:=by
  have hl:(tm1++t).length=t.length+9+1:=by simp [tm1]
  rw [hl,ZS,if_neg (by rw [ht];decide)];simp
 unfold Z4;rw [if_neg (by simp [tm1]),if_neg hf];exact⟨_,rfl⟩
def Zd0:List Ln→Bool
 |[]=>true
 |[x]=>decide (x.2.1=[])
 |_=>false
def ZdZ (t:List UInt8):Bool:=Zd0 (Zv t)
theorem ZsK {t:List UInt8} (h:ZdZ t=true):t.all Zaj=true:=by
 cases t with
 |nil=>rfl
 |cons x r=>
  unfold ZdZ Zv at h;rw [show(x::r).length=r.length+1 from rfl,ZG,if_neg (by simp)] at h;unfold Zd0 at h;have hE:lnE (x::r)=[]:=by
   split at h
   · next he=>cases he
   · next y he=>injection he with he _;subst he;simpa using h
   · cases h
  have hd:(x::r).drop (lnT (x::r)).length=[]:=by
   unfold lnE at hE;generalize (x::r).drop (lnT (x::r)).length=q at*;unfold Zbz at hE;split at hE
   · cases hE
   · cases hE
   · rfl
  have he:lnT (x::r)=x::r:=by
   unfold lnT at hd⊢;have h1:=List.drop_eq_nil_iff.1 hd;have h2:=List.takeWhile_prefix Zaj (l:=x::r);exact h2.eq_of_length (by have:=h2.length_le;omega)
  rw [List.all_eq_true];intro y hy;have:=List.all_takeWhile (p:=Zaj) (l:=x::r);rw [show(x::r).takeWhile Zaj=x::r from he] at this;exact List.all_eq_true.1 this y hy
theorem Zse {r:List UInt8} (hr:r.all Zaj=true)(h0:r≠[])(f i:Nat)(hf:1≤f):ZG f r i=[(r,[],i)]:=by
 obtain⟨f,rfl⟩:∃g,f=g+1:=⟨f - 1,by omega⟩
 have hT:lnT r=r:=by
  unfold lnT;induction r with
  |nil=>rfl
  |cons y a ih=>
   simp only [List.all_cons,Bool.and_eq_true] at hr;rw [List.takeWhile_cons,if_pos hr.1];cases a with
   |nil=>rfl
   |cons z b=>rw [ih hr.2 (by simp)]
 have hE:lnE r=[]:=by
  unfold lnE;rw [hT,List.drop_length];rfl
 rw [ZG,if_neg h0,hT,hE];simp only [List.length_nil,Nat.add_zero,List.drop_length];cases f<;>rfl
theorem ZtW {c:Nat} (hc:c≤6){t:List UInt8} (ht:t.all Zaj=true):∃ps,ZP Z4 (Zv (Zd c++t))= .inl ps∧Z7 ps=Zd c++t:=by
 obtain⟨l,h,hl⟩:=Zk6 hc t;have hr:(tm1++t).all Zaj=true:=by rw [List.all_append,ht];rfl
 have hfl:1≤(Zd c++t).length - 1:=by simp [Zd,tm1];omega
 rw [Zse hr (by simp [tm1]) _ _ hfl] at hl;obtain⟨p1,e1⟩:=Option.isSome_iff_exists.1 (Zch hc).2.2.1;obtain⟨p2,e2⟩:=Zsl t;obtain⟨ps,hps⟩:∃ps,ZP Z4 (Zv (Zd c++t))= .inl ps:=by
  rw [h,hl];simp only [ZP,e1,e2];exact⟨_,rfl⟩
 exact⟨ps,hps,ZuP Z4 (fun s ps h=>Zsk s ps h) _ _ hps⟩
theorem Zji (p:Int)(w:World):Calls Tryz.prog 262 #[.int .i32 p] w fun e w'=>e= .returned (.bool (ZcH p))∧w=w':=by
 by_cases h0:p=1169
 · subst h0;go_enter Tryz.func262,Tryz.ntmps262
   go_wp2_with fail
   go_ret
   exact⟨rfl,rfl⟩
 have hb:(p==1169)=false:=by simpa using h0
 go_enter Tryz.func262,Tryz.ntmps262
 go_wp2
 all_goals go_ret
 all_goals refine⟨Zd9 ?_,rfl⟩
 all_goals (unfold ZcH;rw [Bool.eq_iff_iff];simp;omega)
theorem Zjh (p:Int)(w:World):Calls Tryz.prog 261 #[.int .i32 p] w fun e w'=>e= .returned (.bool (Zcz p))∧w=w':=by
 by_cases h0:p=1168
 · subst h0;go_enter Tryz.func261,Tryz.ntmps261
   go_wp2_with fail
   go_ret
   exact⟨rfl,rfl⟩
 have hb:(p==1168)=false:=by simpa using h0
 go_enter Tryz.func261,Tryz.ntmps261
 go_wp2
 all_goals go_ret
 all_goals refine⟨Zd9 ?_,rfl⟩
 all_goals (unfold Zcz;rw [Bool.eq_iff_iff];simp;omega)
theorem Zn9 (p:Int)(w:World):Calls Tryz.prog 323 #[.int .i32 p] w fun e w'=>e= .returned (.int .i64 (Zd7 p))∧w=w':=by
 go_enter Tryz.func323,Tryz.ntmps323
 go_wp2
 all_goals go_ret
 all_goals refine⟨Za4 ?_,rfl⟩
 all_goals (unfold Zd7;(repeat' split)<;>first|omega|(simp at* <;>omega))
theorem Zn8 (p:Int)(w:World):Calls Tryz.prog 324 #[.int .i32 p] w fun e w'=>e= .returned (.int .i64 (ZdY p))∧w=w':=by
 go_enter Tryz.func324,Tryz.ntmps324
 go_wp2
 all_goals go_ret
 all_goals refine⟨Za4 ?_,rfl⟩
 all_goals (unfold ZdY;(repeat' split)<;>first|omega|(simp at* <;>omega))
theorem Zn6 (p:Int)(w:World):Calls Tryz.prog 327 #[.int .i32 p] w fun e w'=>e= .returned (.int .i64 (ZdN p))∧w=w':=by
 go_enter Tryz.func327,Tryz.ntmps327
 go_wp2
 all_goals go_ret
 all_goals refine⟨Za4 ?_,rfl⟩
 all_goals (unfold ZdN;(repeat' split)<;>first|omega|(simp at* <;>omega))
theorem Zoa (p:Int)(w:World):Calls Tryz.prog 325 #[.int .i32 p] w fun e w'=>e= .returned (.int .i64 (ZdF p))∧w=w':=by
 have hl:=fun w=>Zji p w;have hc:=fun w=>Zjh p w;have hr:ZdF p=if ZcH p then 4 else if Zcz p then 2 else -4:=rfl
 generalize ZdF p=r at*;generalize ZcH p=a at*;generalize Zcz p=b at*;cases a
 · cases b
   · obtain rfl:r= -4:=by rw [hr];rfl
     clear hr;go_enter Tryz.func325,Tryz.ntmps325
     go_wp2_with (first|(go_at_call 262;refine(hl _).mono ?_;rintro e w1 ⟨rfl,rfl⟩)|(go_at_call 261;refine(hc _).mono ?_;rintro e w1 ⟨rfl,rfl⟩))
     go_ret
     exact⟨rfl,rfl⟩
   · obtain rfl:r=2:=by rw [hr];rfl
     clear hr;go_enter Tryz.func325,Tryz.ntmps325
     go_wp2_with (first|(go_at_call 262;refine(hl _).mono ?_;rintro e w1 ⟨rfl,rfl⟩)|(go_at_call 261;refine(hc _).mono ?_;rintro e w1 ⟨rfl,rfl⟩))
     go_ret
     exact⟨rfl,rfl⟩
 · obtain rfl:r=4:=by rw [hr];rfl
   clear hr;go_enter Tryz.func325,Tryz.ntmps325
   go_wp2_with (first|(go_at_call 262;refine(hl _).mono ?_;rintro e w1 ⟨rfl,rfl⟩)|(go_at_call 261;refine(hc _).mono ?_;rintro e w1 ⟨rfl,rfl⟩))
   go_ret
   exact⟨rfl,rfl⟩
theorem Zn7 (p:Int)(w:World):Calls Tryz.prog 326 #[.int .i32 p] w fun e w'=>e= .returned (.int .i64 (Zb0 p))∧Below w.heap.size w w':=by
 by_cases h:44032≤p∧p≤55203
 · obtain⟨n,rfl⟩:∃n:Nat,p=44032+(n:Int):=⟨(p - 44032).toNat,by omega⟩
   have hr:=fun w=>ZjG n (by omega) w;have hk:Zb0 (44032+(n:Int))=if Zn n then 6 else 2:=by
    unfold Zb0;rw [if_pos h,show((44032:Int)+n - 44032).toNat=n by omega]
   clear h;generalize cnt (Zn n) n=k at*;generalize Zb0 (44032+(n:Int))=r at*;generalize Zn n=b at*;cases b
   · obtain rfl:r=2:=by rw [hk];rfl
     clear hk;go_enter Tryz.func326,Tryz.ntmps326
     go_wp2_with (go_at_call 365;refine(hr _).mono ?_;rintro e w1 ⟨rfl,hb1⟩)
     go_ret
     exact⟨rfl,hb1⟩
   · obtain rfl:r=6:=by rw [hk];rfl
     clear hk;go_enter Tryz.func326,Tryz.ntmps326
     go_wp2_with (go_at_call 365;refine(hr _).mono ?_;rintro e w1 ⟨rfl,hb1⟩)
     go_ret
     exact⟨rfl,hb1⟩
 · have hr:=fun w=>Zpp p (by omega) w;have hk:Zb0 p=if 12593≤p∧p≤12686 then -2 else 1:=by unfold Zb0;rw [if_neg h]
   generalize Zb0 p=r at*;clear h;by_cases h1:12593≤p∧p≤12686
   · obtain rfl:r= -2:=by rw [hk,if_pos h1]
     obtain⟨a0,a1⟩:=h1;clear hk;go_enter Tryz.func326,Tryz.ntmps326
     go_wp2_with (go_at_call 365;refine(hr _).mono ?_;rintro e w1 ⟨rfl,hb1⟩)
     go_ret
     exact⟨rfl,hb1⟩
   · obtain rfl:r=1:=by rw [hk,if_neg h1]
     clear hk;by_cases h2:12593≤p
     · have h3:¬p≤12686:=by omega
       clear h1;go_enter Tryz.func326,Tryz.ntmps326
       go_wp2_with (go_at_call 365;refine(hr _).mono ?_;rintro e w1 ⟨rfl,hb1⟩)
       go_ret
       exact⟨rfl,hb1⟩
     · clear h1;go_enter Tryz.func326,Tryz.ntmps326
       go_wp2_with (go_at_call 365;refine(hr _).mono ?_;rintro e w1 ⟨rfl,hb1⟩)
       go_ret
       exact⟨rfl,hb1⟩
theorem Zob (c:Nat)(hc:c≤6)(p:Int)(w:World):Calls Tryz.prog 260 #[.int .i64 c,.int .i32 p] w fun e w'=>e= .returned (.int .i64 (ZbS c p))∧Below w.heap.size w w':=by
 have c1:=fun w=>Zn9 p w;have c2:=fun w=>Zn8 p w;have c3:=fun w=>Zoa p w;have c4:=fun w=>Zn7 p w;have c5:=fun w=>Zn6 p w;have hw:ZbS c p=if p<128 then Zd7 p else if c=0 then ZdY p else if c≤3 then ZdF p else if c=4∨c=5 then Zb0 p else ZdN p:=rfl
 rw [hw];clear hw;generalize Zd7 p=x1 at*;generalize ZdY p=x2 at*;generalize ZdF p=x3 at*;generalize Zb0 p=x4 at*;generalize ZdN p=x5 at*;by_cases h:p<128
 · rw [if_pos h];go_enter Tryz.func260,Tryz.ntmps260
   go_wp2_with (go_at_call 323;refine(c1 _).mono ?_;rintro e w1 ⟨rfl,rfl⟩)
   go_ret
   exact⟨rfl,Below.refl _ _⟩
 · rw [if_neg h];rcases(show c=0∨c=1∨c=2∨c=3∨c=4∨c=5∨c=6 by omega) with rfl|rfl|rfl|rfl|rfl|rfl|rfl
   all_goals
    go_enter Tryz.func260,Tryz.ntmps260
    go_wp2_with (first|(go_at_call 324;refine(c2 _).mono ?_;rintro e w1 ⟨rfl,rfl⟩)|(go_at_call 325;refine(c3 _).mono ?_;rintro e w1 ⟨rfl,rfl⟩)|(go_at_call 326;refine(c4 _).mono ?_;rintro e w1 ⟨rfl,hb1⟩)|(go_at_call 327;refine(c5 _).mono ?_;rintro e w1 ⟨rfl,rfl⟩))
    go_ret
    first|exact⟨rfl,Below.refl _ _⟩|exact⟨rfl,hb1⟩
end Go.Proofs.YtlfinljfghhpdaaGreatDoor
namespace Go.Proofs.YtlfinljfghhpdaaGreatDoor
open Go Go.RowKit Go.Maps
theorem Zlv:Keyed Tryz.prog 21:=int_keyed Tryz.underlying21
theorem zeroW (w:World):(zeroValue 3).run Tryz.prog w= .ok (.int .i64 0) w:=by kernel_rfl
theorem ZnE {p:Int} (h: -2147483648≤p∧p<2147483648):(Lit.int .i32 p).wf=true:=by
 simp [Lit.wf,IntKind.min,IntKind.max,IntKind.bits,IntKind.signed];omega
theorem ZuS {c:Int} (h: -1000≤c∧c≤1000):(Lit.int .i64 c).wf=true:=by
 simp [Lit.wf,IntKind.min,IntKind.max,IntKind.bits,IntKind.signed];omega
def MpW (w:World)(b n:Nat)(M:Int→Option Int):Prop:=∃D:DataW Unit,w.ownsMap Tryz.prog 21 (plainElem Tryz.prog 3) b n D∧(∀p:Int,(M p).isSome=Maps.has D (.int .i32 p))∧∀(p:Int) (c:Int),M p=some c→∀z,D.atKey (.int .i32 p) z= .lit (.int .i64 c)
theorem MpW.made (w:World):MpW (w.alloc (.map #[] 0)) w.heap.size 0 (fun _=>none):=⟨.map [],World.ownsMap_made _ _ _ _,fun _=>rfl,fun _ _ h=>by cases h⟩
theorem MpW.kept {w w':World} {b n:Nat} {M:Int→Option Int} {row:Option Nat} (h:MpW w b n M)(hg:w.grownBy w' row)(hne:some b≠row):MpW w' b n M:=by
 obtain⟨D,h1,h2⟩:=h;exact⟨D,h1.kept hg hne,h2⟩
theorem MpW.below {w w':World} {b n:Nat} {M:Int→Option Int} (h:MpW w b n M)(hb:Below w.heap.size w w'):MpW w' b n M:=
 h.kept (row:=none) ⟨hb.os,hb.tape,hb.output,hb.size,fun k hk _=>hb.block k hk⟩ (by simp)
section
variable {ops:Array Oper} {rest:List Oper} {o:Oper} {a:Act} {Q:Exit→Act→World→Prop} {w:World} {b n:Nat} {M:Int→Option Int}
theorem ZlO (hg:o.guard=none)(m x:Operand)(hop:o.op=Op.lookup 308 m x true)(h:MpW w b n M)(hm:a.eval m= .map (some b))(p:Int)(hx:a.eval x= .int .i32 p)(hp: -2147483648≤p∧p<2147483648)
 (hK:∀c:Int,(∀k,M p=some k→c=k)→wpList Tryz.prog ops Q rest (a.put o.dst (.tuple #[.int .i64 c,.bool (M p).isSome])) w):
 wpList Tryz.prog ops Q (o::rest) a w:=by
 obtain⟨D,h1,h2,h3⟩:=h;refine wpList_lookup_own_ok_int _ hg m x 308 hop 21 3 .i64 Zlv Tryz.underlying308 Tryz.underlying3 (zeroW _) b n D hm h1 (.int .i32 p) (.int .i32 p) hx (keyOf_int_mk Tryz.underlying21 (ZnE hp)) ?_;intro c hat _;rw [←h2];refine hK c fun k hk=> ?_;rw [h3 p k hk] at hat;simpa using hat.symm
theorem mw_put (hg:o.guard=none)(m x v:Operand)(hop:o.op=Op.mapUpdate 308 m x v)(h:MpW w b n M)(hm:a.eval m= .map (some b))(p:Int)(hx:a.eval x= .int .i32 p)(hp: -2147483648≤p∧p<2147483648)(c:Int)(hv:a.eval v= .int .i64 c)(hc: -1000≤c∧c≤1000)(hn:n≤10000000)
 (hK:∀w',MpW w' b (n+1) (fun q=>if q=p then some c else M q)→w.grownBy w' (some b)→wpList Tryz.prog ops Q rest (a.put o.dst undef) w'):
 wpList Tryz.prog ops Q (o::rest) a w:=by
 obtain⟨D,h1,h2,h3⟩:=h;refine wpList_mapUpdate_own _ hg m x v 308 hop 21 3 Zlv Tryz.underlying308 _ b n D hm h1 (by unfold maxLen;omega) (.int .i32 p) (.int .i64 c) (.int .i32 p) hx hv (keyOf_int_mk Tryz.underlying21 (ZnE hp)) (.lit (.int .i64 c)) [] (plainElem_int Tryz.underlying3 (ZuS hc)) ?_;intro w' h4 h5;have hD:IsMap D:=by obtain⟨es,cl,_,_,_,rfl⟩:=h1;exact⟨_,rfl⟩
 refine hK w' ⟨_,h4,fun q=> ?_,fun q k hk z=> ?_⟩ h5
 · show(if q=p then some c else M q).isSome=_
   by_cases e:q=p
   · subst e;rw [if_pos rfl,has_put_same hD (show WideAt.IsKeyLit (.int .i32 q) from trivial)];rfl
   · rw [if_neg e,h2,has_put_other (by simpa using e)]
 · have hk:(if q=p then some c else M q)=some k:=hk;by_cases e:q=p
   · subst e;rw [if_pos rfl] at hk;injection hk with hk;subst hk;exact atKey_put_same hD (show WideAt.IsKeyLit (.int .i32 q) from trivial) _ _
   · rw [if_neg e] at hk;rw [atKey_put_other (by simpa using e)];exact h3 q k hk z
end
end Go.Proofs.YtlfinljfghhpdaaGreatDoor
namespace Go.Proofs.YtlfinljfghhpdaaGreatDoor
open Go Go.RowKit
theorem ZqE (w:World)(e:TypeId)(s:ByteArray)(j:Nat)(hj:j<s.size):(Lib.bytesWorld w e s).frozen? ⟨w.heap.size,j,none⟩=false:=by
 have h:=Lib.bytesWorld_at_new w e s;have hs:s.size≤(Lib.bytesCells w e s).size:=by simp [Lib.bytesCells]
 simp only [World.frozen?,h];simp;omega
theorem ZqD (w:World)(e:TypeId)(s:ByteArray):Below w.heap.size w (Lib.bytesWorld w e s):=
 ⟨rfl,rfl,rfl,by rw [Lib.bytesWorld_size];omega,fun k hk=>Lib.bytesWorld_at_old w e s k hk⟩
def Zbl (l:List UInt8)(k j:Nat):UInt8:=if j<k then ZeO (l.getD j 0) else l.getD j 0
def ZpT (l:List UInt8)(w0:World)(i:Value)(wr:World):Prop:=∃k:Nat,k≤l.length∧i= .int .i64 k∧Hid (∀j,j<l.length→wr.cell? ⟨w0.heap.size,j,none⟩=some (u8V (Zbl l k j))∧wr.frozen? ⟨w0.heap.size,j,none⟩=false)∧Below w0.heap.size w0 wr
theorem Znc (l:List UInt8)(k j:Nat)(h:j≠k):Zbl l (k+1) j=Zbl l k j:=by
 unfold Zbl;by_cases h1:j<k
 · rw [if_pos h1,if_pos (by omega)]
 · rw [if_neg h1,if_neg (by omega)]
theorem ZnY (l:List UInt8)(hl:l.length≤100000)(w:World):
 Calls Tryz.prog 226 #[.string (B l)] w fun e w'=>e= .returned (.string (B (Zb5 l)))∧Below w.heap.size w w':=by
 have hsz:=Zy l;have hcv:=Lib.run_convert_string_bytes (P:=Tryz.prog) w 9 79 5 (B l) Tryz.underlying9 Tryz.underlying79 Tryz.underlying5;rw [hsz] at hcv;have h0:∀j,j<l.length→(Lib.bytesWorld w 5 (B l)).cell? ⟨w.heap.size,j,none⟩=some (u8V (Zbl l 0 j))∧(Lib.bytesWorld w 5 (B l)).frozen? ⟨w.heap.size,j,none⟩=false:=by
  intro j hj;refine⟨?_,ZqE w _ (B l) j (by rw [hsz];exact hj)⟩;rw [Lib.bytesWorld_cell w _ (B l) j (by rw [hsz];exact hj),ZQ];rfl
 have hb0:=ZqD w 5 (B l);have hz0:=Lib.bytesWorld_size w 5 (B l);generalize Lib.bytesWorld w 5 (B l)=W1 at*;generalize grownCap w l.length 0 5=cap at*;have H0:=Lib.hid h0;clear h0;go_enter Tryz.func226,Tryz.ntmps226
 go_wp2_with fail
 go_loopw [10] (fun i wr=>ZpT l w i wr) (fun i _=>l.length - (intOf i).toNat)
 case atStart=>exact⟨0,Nat.zero_le _,rfl,H0,hb0⟩
 case round=>
  obtain⟨k,hk,rfl,hcell,hb⟩:=hrel;have hz:=hb.size;by_cases hlt:k<l.length
  · obtain⟨c0,f0⟩:=hcell.out k hlt;have hs0:Zbl l k k=l[k]:=by unfold Zbl;rw [if_neg (by omega)];simp [List.getD,hlt]
    rw [hs0] at c0;have hx:=l[k].toNat_lt;by_cases hcap:65≤l[k].toNat∧l[k].toNat≤90
    · have hv:ZeO l[k]=l[k]+32:=by unfold ZeO;rw [if_pos hcap]
      have hvn:((l[k]+32).toNat:Int)=(l[k].toNat:Int)+97 - 65:=by
       rw [UInt8.toNat_add];have:(32:UInt8).toNat=32:=rfl;omega
      unfold u8V at c0;obtain⟨hcap0,hcap1⟩:=hcap;have hi0:65≤(l[k].toNat:Int):=by omega
      have hi1:(l[k].toNat:Int)≤90:=by omega
      generalize hyy:l[k]+32=y at*;generalize l[k].toNat=xn at*;have Hv:=Lib.hid hv;have Hvn:=Lib.hid hvn;clear hv hvn hyy hs0 hcap0 hcap1;go_wp2_with fail
      go_roundw
      case rel=>
       refine⟨k+1,by omega,by go_num,Lib.hid ?_,hb.setCell (p:=⟨w.heap.size,k,none⟩) (Nat.le_refl _) _⟩;intro j hj;refine⟨?_,by rw [World.frozen?_setCell];exact(hcell.out j hj).2⟩;by_cases e:j=k
       · subst e;rw [World.cell?_setCell_same _ _ _ c0];have hn:Zbl l (j+1) j=y:=by unfold Zbl;rw [if_pos (by omega),←Hv.out];simp [List.getD,hlt]
         rw [hn];unfold u8V;rw [Hvn.out]
       · rw [World.cell?_setCell_other _ _ _ _ (fun h=>e (by injection h with _ h2 _;exact h2.symm)),(hcell.out j hj).1,Znc l k j e]
      case measure=>simp [intOf];omega
    · have hv:Zbl l (k+1) k=Zbl l k k:=by unfold Zbl;rw [if_pos (by omega),if_neg (by omega)];simp [List.getD,hlt,ZeO,hcap]
      have Hv:=Lib.hid hv;have hcell':Hid (∀j,j<l.length→wr.cell? ⟨w.heap.size,j,none⟩=some (u8V (Zbl l (k+1) j))∧wr.frozen? ⟨w.heap.size,j,none⟩=false):=Lib.hid fun j hj=>by
       by_cases e:j=k
       · subst e;rw [Hv.out];exact hcell.out j hj
       · rw [Znc l k j e];exact hcell.out j hj
      unfold u8V at c0;clear hv;by_cases h1:65≤l[k].toNat
      · have hi0:65≤(l[k].toNat:Int):=by omega
        have hi1:¬(l[k].toNat:Int)≤90:=by omega
        generalize l[k].toNat=xn at*;clear hcap h1 hs0;go_wp2_with fail
        go_roundw
        case rel=>exact⟨k+1,by omega,by go_num,hcell',hb⟩
        case measure=>simp [intOf];omega
      · have hi0:¬65≤(l[k].toNat:Int):=by omega
        generalize l[k].toNat=xn at*;clear hcap h1 hs0;go_wp2_with fail
        go_roundw
        case rel=>exact⟨k+1,by omega,by go_num,hcell',hb⟩
        case measure=>simp [intOf];omega
  · have hke:k=l.length:=by omega
    subst hke;have hn:ZA wr (w.heap.size+1) .u8 (some ⟨w.heap.size,0,none⟩) ((Zb5 l).map fun c:UInt8=>(c.toNat:Int)):=by
     refine⟨by simp,fun _=>⟨_,rfl,by simp,fun j u hu=> ?_⟩⟩;have hadd:(⟨w.heap.size,0,none⟩:Addr).add j=⟨w.heap.size,j,none⟩:=by unfold Addr.add;split<;>simp_all
     simp only [Zb5,List.map_map,List.getElem?_map,Option.map_eq_some_iff] at hu;obtain⟨c,hc,rfl⟩:=hu;have hj:j<l.length:=(List.getElem?_eq_some_iff.1 hc).1;rw [hadd,(hcell.out j hj).1];unfold Zbl u8V;rw [if_pos hj];simp [List.getD,hc]
    have hcv2:=ZdO (P:=Tryz.prog) 79 9 5 Tryz.underlying79 Tryz.underlying5 Tryz.underlying9 wr hn cap;rw [Znj,List.length_map,show(Zb5 l).length=l.length by simp [Zb5]] at hcv2;clear hn hcell;go_wp2_with fail
    go_ret
    exact⟨rfl,hb⟩
end Go.Proofs.YtlfinljfghhpdaaGreatDoor
