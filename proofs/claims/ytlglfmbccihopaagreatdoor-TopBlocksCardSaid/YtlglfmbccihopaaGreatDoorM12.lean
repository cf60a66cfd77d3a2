/- Lemmas for a statement on the tops; conditions: as each says. -/
import Derived.Laws.Bits64b
import Derived.Deep.DeepCutAuto
import Derived.Laws.BitsAllLaws
import Derived.Deep.RegionHeld3
import Derived.Test.YtlglfmbccihopaaGreatDoorM11
set_option linter.unusedVariables false
set_option linter.unusedSimpArgs false
set_option maxRecDepth 100000
set_option maxHeartbeats 4000000
namespace Go.Proofs.YtlglfmbccihopaaGreatDoor
open Go Go.RowKit
theorem getB (t:List UInt8)(i:Nat)(h:i<t.length):(B t)[i]'(by rw [Zt];exact h)=t[i]:=by simp [B];rfl
end Go.Proofs.YtlglfmbccihopaaGreatDoor
namespace Go.Proofs.YtlglfmbccihopaaGreatDoor
open Go
structure Lf where
 text:List UInt8
 set:Nat
structure Nt where
 name:List UInt8
 leaf:Lf
structure Bk where
 vendor:Lf
 notes:List Nt
def ZbS (x:UInt8):Bool:=decide (32≤x.toNat)&&decide (x.toNat≤125)&& !(x==61)
def Zs:List UInt8→Nat
 |[]=>0
 |x::r=>if ZbS x then Zs r+1 else 0
theorem ZjH:∀(n r:List UInt8),n.all ZbS=true→Zs (n++61::r)=n.length
 |[],r,_=>by simp [Zs,ZbS]
 |x::n,r,h=>by
  simp only [List.all_cons,Bool.and_eq_true] at h;simp [Zs,h.1,ZjH n r h.2]
def ZQ (s:InS):List UInt8×Nat×InS:=
 let n:=s.small 4
 let t:=n.2.take n.1
 (t.1,n.2.at_,t.2)
def ZdL (lf:List UInt8→Except (Nat×Nat) Lf)(s:InS)(b:List UInt8)(k:Nat):Lf×InS:=
 match lf b with
 | .ok l=>(l,s)
 | .error e=>(⟨[],0⟩,s.fail e.1 (k+e.2))
def Zb7 (lf:List UInt8→Except (Nat×Nat) Lf)(s:InS):Nt×InS:=
 let p:=ZQ s
 if p.2.2.e≠0 then(⟨[],⟨[],0⟩⟩,p.2.2) else
 let n:=Zs p.1
 if n=0∨p.1[n]?≠some 61 then(⟨[],⟨[],0⟩⟩,p.2.2.fail 1 (p.2.1+n)) else
 let l:=ZdL lf p.2.2 (p.1.drop (n+1)) (p.2.1+n+1)
 (⟨p.1.take n,l.1⟩,l.2)
def ZbH (lf:List UInt8→Except (Nat×Nat) Lf):Nat→InS→Option (List Nt)×InS
 |0,s=>(some [],s)
 |n+1,s=>if s.e≠0 then(none,s) else
  let p:=Zb7 lf s
  match ZbH lf n p.2 with
  |(none,s')=>(none,s')
  |(some l,s')=>(some (p.1::l),s')
def ZcQ (lf:List UInt8→Except (Nat×Nat) Lf)(framed:Bool)(s:InS):Option Bk×InS:=
 if s.e≠0 then(none,s) else
 let v:=ZQ s
 if v.2.2.e≠0 then(none,v.2.2) else
 let l:=ZdL lf v.2.2 v.1 v.2.1
 let n:=l.2.small 4
 let s1:=if 4096<n.1 then n.2.fail 4 l.2.at_ else n.2
 match ZbH lf n.1 s1 with
 |(none,s')=>(none,s')
 |(some ns,s2)=>
  let s3:=if framed then(s2.want [1]).2 else s2
  let s4:=if 0<s3.left then s3.fail 1 s3.at_ else s3
  if s4.e≠0 then(none,s4) else(some ⟨l.1,ns⟩,s4)
def sizedB (b:List UInt8):List UInt8:=ZA b.length 4++b
def Zbv (n:Nt):List UInt8:=sizedB (n.name++61::n.leaf.text)
def ZT (framed:Bool)(b:Bk):List UInt8:=
 sizedB b.vendor.text++(ZA b.notes.length 4++((b.notes.map Zbv).flatten++if framed then [1] else []))
structure NtOk (lf:List UInt8→Except (Nat×Nat) Lf)(n:Nt):Prop where
 some:n.name≠[]
 name:n.name.all ZbS=true
 leaf:lf n.leaf.text= .ok n.leaf
 size:n.name.length+1+n.leaf.text.length<4294967296
structure BkOk (lf:List UInt8→Except (Nat×Nat) Lf)(b:Bk):Prop where
 vendor:lf b.vendor.text= .ok b.vendor
 size:b.vendor.text.length<4294967296
 notes:∀n∈b.notes,NtOk lf n
 many:b.notes.length≤4096
theorem Zm0 (b:Nat)(p x r:List UInt8)(h:x.length<4294967296):
 ZQ (InS.mk' b p (sizedB x++r))=(x,(InS.mk' b (p++ZA x.length 4) (x++r)).at_,InS.mk' b (p++sizedB x) r):=by
 simp only [ZQ,sizedB,List.append_assoc];rw [InS.small_mk _ _ _ _ 4 (by omega) (by simpa using h)];simp only [InS.take_mk,List.append_assoc]
theorem ZrJ (lf:List UInt8→Except (Nat×Nat) Lf)(n:Nt)(ok:NtOk lf n)(b:Nat)(p r:List UInt8):
 Zb7 lf (InS.mk' b p (Zbv n++r))=(n,InS.mk' b (p++Zbv n) r):=by
 have ez:∀b x y,(InS.mk' b x y).e=0:=fun _ _ _=>rfl;have hn:n.name.length≠0:=fun h=>ok.some (List.length_eq_zero_iff.mp h);have hd:(n.name++61::n.leaf.text).drop (n.name.length+1)=n.leaf.text:=by
  rw [List.drop_append,List.drop_of_length_le (by omega),show n.name.length+1 - n.name.length=1 by omega];rfl
 have ht:(n.name++61::n.leaf.text).take n.name.length=n.name:=by simp
 have hi:(n.name++61::n.leaf.text)[n.name.length]? =some 61:=by simp
 have hs:=Zm0 b p (n.name++61::n.leaf.text) r (by have:=ok.size;simp only [List.length_append,List.length_cons];omega);simp only [Zb7,Zbv,hs,ez,ne_eq,not_true_eq_false,if_false,ZjH _ _ ok.name,hn,hi,false_or,hd,ht,ZdL,ok.leaf]
theorem ZlK (lf:List UInt8→Except (Nat×Nat) Lf):∀(l:List Nt),(∀n∈l,NtOk lf n)→∀(b:Nat) (p r:List UInt8),
 ZbH lf l.length (InS.mk' b p ((l.map Zbv).flatten++r))=(some l,InS.mk' b (p++(l.map Zbv).flatten) r)
 |[],_,b,p,r=>by simp [ZbH]
 |n::l,h,b,p,r=>by
  have ez:∀b x y,(InS.mk' b x y).e=0:=fun _ _ _=>rfl;have ih:=ZlK lf l (fun m hm=>h m (by simp [hm])) b (p++Zbv n) r;simp only [List.length_cons,ZbH,ez,ne_eq,not_true_eq_false,if_false,List.map_cons,List.flatten_cons,List.append_assoc,
   ZrJ lf n (h n (by simp))]
  rw [ih];simp only [List.append_assoc]
theorem ZjZ (lf:List UInt8→Except (Nat×Nat) Lf)(framed:Bool)(k:Bk)(ok:BkOk lf k)(b:Nat)(p:List UInt8):
 ZcQ lf framed (InS.mk' b p (ZT framed k))=(some k,InS.mk' b (p++ZT framed k) []):=by
 have ez:∀b x y,(InS.mk' b x y).e=0:=fun _ _ _=>rfl;have hm:=ok.many;have hm':¬4096<k.notes.length:=by omega
 simp only [ZcQ,ZT,ez,ne_eq,not_true_eq_false,if_false,Zm0 _ _ _ _ ok.size,ZdL,ok.vendor];rw [InS.small_mk _ _ _ _ 4 (by omega) (by simp;omega)];simp only [if_neg hm',ZlK lf k.notes ok.notes];cases framed
 · simp only [Bool.false_eq_true,if_false,InS.left_mk,List.length_nil,Nat.lt_irrefl,ez,not_true_eq_false,List.append_nil,List.append_assoc]
 · have hw:∀q,(InS.mk' b q [1]).want [1]=(true,InS.mk' b (q++[1]) []):=fun q=>by
    have:=InS.want_mk b q [1] []
    rwa [List.append_nil] at this
   simp only [if_true,hw,InS.left_mk,List.length_nil,Nat.lt_irrefl,if_false,ez,not_true_eq_false,List.append_assoc]
structure Mt where
 kind:Nat
 body:List UInt8
def Zae:List UInt8:=[102,76,97,67]
def Zam (n kind len:Nat)(noted:Bool):Bool:=
 if n=0 then kind==0&&len==34 else !(kind==0)&&decide (kind≤126)&&(!(kind==4)|| !noted)
def Zba (lf:List UInt8→Except (Nat×Nat) Lf):Nat→InS→Nat→Option (Nat×Bk)→Except (Nat×Nat) (List Mt×Option (Nat×Bk)×InS)
 |0,_,_,_=> .error (0,0)
 |fuel+1,s,n,nt=>
  let h:=s.big 1
  let z:=h.2.big 3
  let b:=z.2.take z.1
  if b.2.e≠0 then .error (b.2.e,b.2.a) else
  if Zam n (h.1 % 128) b.1.length nt.isSome=false then .error (1,s.at_) else
  if 4096≤n then .error (4,s.at_) else
  if h.1 % 128=4 then
   match ZcQ lf false ⟨b.1,0,b.2.at_ - b.1.length,0,0⟩ with
   |(none,i)=> .error (i.e,i.a)
   |(some k,_)=>
    if 128≤h.1 then .ok ([⟨4,[]⟩],some (n,k),b.2) else
    match Zba lf fuel b.2 (n+1) (some (n,k)) with
    | .error e=> .error e
    | .ok q=> .ok (⟨4,[]⟩::q.1,q.2)
  else
   if 128≤h.1 then .ok ([⟨h.1 % 128,b.1⟩],nt,b.2) else
   match Zba lf fuel b.2 (n+1) nt with
   | .error e=> .error e
   | .ok q=> .ok (⟨h.1 % 128,b.1⟩::q.1,q.2)
def Zn (k:Bk)(m:Mt):List UInt8:=if m.kind=4 then ZT false k else m.body
def Zag (k:Bk):List Mt→List UInt8
 |[]=>[]
 |m::r=>UInt8.ofNat (m.kind+if r=[] then 128 else 0)::(ZL (Zn k m).length 3++(Zn k m++Zag k r))
def ZcD (k:Bk):Nat→Bool→List Mt→Prop
 |_,_,[]=>True
 |n,noted,m::r=>Zam n m.kind m.body.length noted=true∧n<4096∧(m.kind=4→m.body=[])∧(Zn k m).length<16777216∧
  ZcD k (n+1) (noted||m.kind==4) r
def Zb6 (k:Bk):Nat→Option (Nat×Bk)→List Mt→Option (Nat×Bk)
 |_,nt,[]=>nt
 |n,nt,m::r=>Zb6 k (n+1) (if m.kind=4 then some (n,k) else nt) r
theorem Ztc {n kind len:Nat} {noted:Bool} (h:Zam n kind len noted=true):kind≤126:=by
 unfold Zam at h;split at h
 · simp at h;omega
 · simp at h;omega
theorem ZgY (lf:List UInt8→Except (Nat×Nat) Lf)(k:Bk)(ok:BkOk lf k):∀(ms:List Mt) (fuel n:Nat) (nt:Option (Nat×Bk)) (b:Nat) (p r:List UInt8),
 ms≠[]→ms.length≤fuel→ZcD k n nt.isSome ms→
 Zba lf fuel (InS.mk' b p (Zag k ms++r)) n nt= .ok (ms,Zb6 k n nt ms,InS.mk' b (p++Zag k ms) r)
 |[],_,_,_,_,_,_,h,_,_=>absurd rfl h
 |m::ms,0,_,_,_,_,_,_,h,_=>absurd h (by simp)
 |m::ms,fuel+1,n,nt,b,p,r,_,hf,hk=>by
  have ez:∀b x y,(InS.mk' b x y).e=0:=fun _ _ _=>rfl;obtain⟨hs,hn,h4,hl,hr⟩:=hk;have k126:=Ztc hs;have hh:(UInt8.ofNat (m.kind+if ms=[] then 128 else 0)).toNat=m.kind+if ms=[] then 128 else 0:=by
   rw [UInt8.toNat_ofNat'];split<;>omega
  have hmod:(m.kind+if ms=[] then 128 else 0) % 128=m.kind:=by split<;>omega
  have hn':¬4096≤n:=by omega
  have hst:Zam n m.kind (Zn k m).length nt.isSome=true:=by
   by_cases e4:m.kind=4
   · unfold Zam at hs⊢;split at hs
     · simp [e4] at hs
     · rw [if_neg (by assumption)];exact hs
   · simpa [Zn,e4] using hs
  have hb:=InS.big_mk b (p++[UInt8.ofNat (m.kind+if ms=[] then 128 else 0)]) (ZL (Zn k m).length 3) (Zn k m++(Zag k ms++r)) 3 (by rw [Zfj];rfl);rw [bigB_3 _ hl] at hb;have hin:∀q,(⟨Zn k m,0,q,0,0⟩:InS)=InS.mk' q [] (Zn k m):=fun _=>rfl;have hp:∀q,p++[UInt8.ofNat (m.kind+if ms=[] then 128 else 0)]++ZL (Zn k m).length 3++Zn k m++q=
   p++(UInt8.ofNat (m.kind+if ms=[] then 128 else 0)::(ZL (Zn k m).length 3++(Zn k m++q))):=by
   intro q;simp [List.append_assoc]
  simp only [Zag,List.cons_append,List.append_assoc (ZL _ _),List.append_assoc (Zn k m),Zba,ZpP,hb,InS.take_mk,ez,ne_eq,not_true_eq_false,if_false,hh,hmod,hst,
   Bool.true_eq_false,hn',hin]
  by_cases e:ms=[]
  · subst e;have h128:128≤m.kind+128:=by omega
    have hp0:=hp [];simp only [List.append_nil] at hp0;by_cases e4:m.kind=4
    · have hbd:Zn k m=ZT false k:=by simp [Zn,e4]
      have hm:m=⟨4,[]⟩:=by cases m;simp_all
      simp only [e4,if_true,hbd,ZjZ lf false k ok,Zag,Zb6,List.append_nil,List.nil_append] at hp0⊢;simp only [(by decide:128≤4+128),if_true,←hm];rw [hp0]
    · have hbd:Zn k m=m.body:=by simp [Zn,e4]
      simp only [e4,if_false,if_true,h128,Zag,Zb6,List.append_nil,List.nil_append] at hp0⊢;rw [hp0,hbd]
  · have h128:¬128≤m.kind+0:=by omega
    have hpr:=hp (Zag k ms);have hf':ms.length≤fuel:=by simpa using hf
    simp only [e,if_false] at hpr⊢;by_cases e4:m.kind=4
    · have hbd:Zn k m=ZT false k:=by simp [Zn,e4]
      have hm:m=⟨4,[]⟩:=by cases m;simp_all
      have ih:=ZgY lf k ok ms fuel (n+1) (some (n,k)) b (p++[UInt8.ofNat (m.kind+0)]++ZL (Zn k m).length 3++Zn k m) r e hf'
       (by have:=hr;rw [e4] at this;simpa using this)
      simp only [e4,if_true,hbd,ZjZ lf false k ok,Zb6] at hpr ih⊢;simp only [(by decide:¬128≤4+0),if_false,ih,←hm,hpr]
    · have hbd:Zn k m=m.body:=by simp [Zn,e4]
      have ih:=ZgY lf k ok ms fuel (n+1) nt b (p++[UInt8.ofNat (m.kind+0)]++ZL (Zn k m).length 3++Zn k m) r e hf'
       (by have h:=hr;rw [show(m.kind==4)=false by simpa using e4,Bool.or_false] at h;exact h)
      simp only [e4,if_false,h128,ih,Zb6,hpr];rw [hbd]
def cut2:List UInt8→Option (List UInt8×List UInt8)
 |x::y::r=>if x=0∧y=0 then some ([],r) else match cut2 r with|none=>none|some q=>some (x::y::q.1,q.2)
 |_=>none
structure Fl where
 ms:List Mt
 nt:Option (Nat×Bk)
 sound:List UInt8
def ZeA (lf:List UInt8→Except (Nat×Nat) Lf)(file:List UInt8):Except (Nat×Nat) Fl:=
 match Zba lf 4097 ((⟨file,0,0,0,0⟩:InS).want Zae).2 0 none with
 | .error e=> .error e
 | .ok q=> .ok ⟨q.1,q.2.1,q.2.2.rest.1⟩
def ZcS (k:Bk)(ms:List Mt)(sound:List UInt8):List UInt8:=Zae++(Zag k ms++sound)
theorem Zlx (k:Bk):∀(ms:List Mt) (n:Nat) (b:Bool),ZcD k n b ms→ms=[]∨n+ms.length≤4096
 |[],_,_,_=> .inl rfl
 |m::ms,n,b,h=>by
  right
  obtain⟨_,hn,_,_,hr⟩:=h;rcases Zlx k ms (n+1) _ hr with e|e
  · subst e;simp only [List.length_cons,List.length_nil];omega
  · simp only [List.length_cons];omega
theorem ZqS (lf:List UInt8→Except (Nat×Nat) Lf)(k:Bk)(ok:BkOk lf k)(ms:List Mt)(hne:ms≠[])(hk:ZcD k 0 false ms)(sound:List UInt8):
 ZeA lf (ZcS k ms sound)= .ok ⟨ms,Zb6 k 0 none ms,sound⟩:=by
 have st:(⟨ZcS k ms sound,0,0,0,0⟩:InS)=InS.mk' 0 [] (Zae++(Zag k ms++sound)):=rfl;have hl:ms.length≤4097:=by
  rcases Zlx k ms 0 false hk with e|e
  · exact absurd e hne
  · omega
 have hb:=ZgY lf k ok ms 4097 0 none 0 ([]++Zae) sound hne hl hk;simp only [ZeA,st,InS.want_mk,hb,InS.rest_mk]
end Go.Proofs.YtlglfmbccihopaaGreatDoor
namespace Go.Proofs.YtlglfmbccihopaaGreatDoor
open Go Go.RowKit
theorem Zb5 (l:List UInt8):(B l).toList=l:=by rw [ByteArray.toList_eq,Zbn]
theorem ZjW (s:InS)(k:Nat)(hk:k≤8):(s.big k).1<256^k:=by
 unfold InS.big;simp only [Nat.min_eq_left hk];have h1:=Zge s k;have h2:=(InS.bigN_lt (s.take k).1 (by omega)).1;exact Nat.lt_of_lt_of_le h2 (Nat.pow_le_pow_right (by decide) h1)
section
variable {w w':World} {F:Nat} {f:Fr}
end
def Bx (w:World)(g:Nat)(cs:Array Value)(T:TypeId):Prop:=w.heap[g]? =some (.cells cs T (0,0))
section
variable {w w':World} {g:Nat} {cs:Array Value} {T:TypeId}
theorem Bx.new (w:World)(cs:Array Value)(T:TypeId):Bx (w.alloc (.cells cs T)) w.heap.size cs T:=heap_alloc_new w _
theorem Bx.lt (h:Bx w g cs T):g<w.heap.size:=(Array.getElem?_eq_some_iff.1 h).1
theorem Bx.below (h:Bx w g cs T)(hb:Below w.heap.size w w'):Bx w' g cs T:=(hb.block g (Bx.lt h)).trans h
theorem Bx.but {C:Nat} (h:Bx w g cs T)(hb:But C w.heap.size w w')(hC:g≠C):Bx w' g cs T:=(hb.block g (Bx.lt h) hC).trans h
theorem Bx.alloc (h:Bx w g cs T)(o:Obj):Bx (w.alloc o) g cs T:=h.below ((Below.refl _ _).alloc (Nat.le_refl _) _)
theorem Bx.set {k:Nat} (h:Bx w g cs T)(hk:g≠k)(j:Nat)(v:Value):Bx (w.setCell ⟨k,j,none⟩ v) g cs T:=(Zf8 hk v).trans h
theorem Bx.cell (h:Bx w g cs T)(j:Nat):w.cell? ⟨g,j,none⟩=cs[j]?:=cell_of_row _ g j _ _ (0,0) h
theorem Bx.put (h:Bx w g cs T)(j:Nat)(v:Value):Bx (w.setCell ⟨g,j,none⟩ v) g (cs.setIfInBounds j v) T:=heap_setCell_same w g j _ _ v h
theorem Bx.free (h:Bx w g cs T)(j:Nat):w.frozen? ⟨g,j,none⟩=false:=frozen_of_row _ g j _ _ h
end
section
variable {w0 w w':World} {F R K:Nat} {f:Fr} {s s':InS}
end
section
variable {w0 w w':World} {T R K:Nat} {v:Int} {rev fl:UInt8} {s s':InS}
end
theorem Bx.three {w:World} {g:Nat} {T:TypeId} {x0 x1 x2:Value} (h:Bx w g #[x0,x1,x2] T)(a b c:Value):Bx (((w.setCell ⟨g,0,none⟩ a).setCell ⟨g,1,none⟩ b).setCell ⟨g,2,none⟩ c) g #[a,b,c] T:=by
 have h0:Bx (w.setCell ⟨g,0,none⟩ a) g #[a,x1,x2] T:=h.put 0 a;have h1:Bx _ g #[a,b,x2] T:=h0.put 1 b;exact h1.put 2 c
def Zg {α:Type} (f:α→List Value)(B:Nat)(w:World)(v:Value)(l:List α):Prop:=
 (l=[]∧v= .slice none 0 0)∨∃bk c:Nat,l≠[]∧v= .slice (some ⟨bk,0,none⟩) l.length c∧l.length≤c∧B≤bk∧bk<w.heap.size∧∀j u,(l.flatMap f)[j]? =some u→w.cell? ⟨bk,j,none⟩=some u
section
variable {α:Type} {m:Nat} {f:α→List Value} {B:Nat} {w w':World} {v:Value} {l:List α}
theorem Zg.below (h:Zg f B w v l)(hb:Below w.heap.size w w'):Zg f B w' v l:=by
 rcases h with h|⟨bk,c,h0,h1,h2,h5,h3,h4⟩
 · exact .inl h
 · exact .inr ⟨bk,c,h0,h1,h2,h5,Nat.lt_of_lt_of_le h3 hb.size,fun j u hu=>(hb.cell (p:=⟨bk,j,none⟩) h3).trans (h4 j u hu)⟩
theorem Zg.but {C:Nat} (h:Zg f B w v l)(hb:But C w.heap.size w w')(hC:C<B):Zg f B w' v l:=by
 rcases h with h|⟨bk,c,h0,h1,h2,h5,h3,h4⟩
 · exact .inl h
 · exact .inr ⟨bk,c,h0,h1,h2,h5,Nat.lt_of_lt_of_le h3 hb.size,fun j u hu=>(hb.cell (p:=⟨bk,j,none⟩) h3 (by show bk≠C;omega)).trans (h4 j u hu)⟩
theorem Zg.low {B':Nat} (h:Zg f B w v l)(hB:B'≤B):Zg f B' w v l:=by
 rcases h with h|⟨bk,c,h0,h1,h2,h5,h3,h4⟩
 · exact .inl h
 · exact .inr ⟨bk,c,h0,h1,h2,by omega,h3,h4⟩
theorem Zg.len (h:Zg f B w v l):∃A c,v= .slice A l.length c∧l.length≤c:=by
 rcases h with⟨h,h1⟩|⟨bk,c,h0,h1,h2,_⟩
 · subst h;exact⟨none,0,h1,Nat.le_refl _⟩
 · exact⟨_,c,h1,h2⟩
theorem Zg.of_own {base:Nat} {e:TypeId} {n:Nat} (hn:n=l.length)(h:w.ownsRow base e m v n (l.flatMap f))(h0:l=[]→v= .slice none 0 0):Zg f base w v l:=by
 by_cases hl:l=[]
 · exact .inl ⟨hl,h0 hl⟩
 · right
   rcases h.2 with⟨_,h1⟩|⟨g,cap,cur,rfl,hb,hg,hnc,hcm,hcs,htake⟩
   · rw [hn] at h1;exact absurd (List.length_eq_zero_iff.1 h1) hl
   · subst hn;refine⟨g,cap,hl,rfl,hnc,hb,(Array.getElem?_eq_some_iff.1 hg).1,fun j u hu=> ?_⟩;have:=h.cells (g:=g) rfl j u hu;have hadd:(⟨g,0,none⟩:Addr).add j=⟨g,j,none⟩:=by unfold Addr.add;split<;>simp_all
     rw [hadd] at this;exact this
end
theorem Zfv {α:Type} (m:Nat)(f:α→List Value)(hf:∀x,(f x).length=m):∀l:List α,(l.flatMap f).length=l.length*m
 |[]=>by simp
 |x::l=>by rw [List.flatMap_cons,List.length_append,hf,Zfv m f hf l,List.length_cons,Nat.succ_mul];omega
theorem Zel {α:Type} (m:Nat)(f:α→List Value)(hf:∀x,(f x).length=m):∀(l:List α) (k j:Nat) (x:α),l[k]? =some x→j<m→(l.flatMap f)[k*m+j]? =(f x)[j]?
 |y::l,0,j,x,h,hj=>by
  simp only [List.getElem?_cons_zero,Option.some.injEq] at h;subst h;rw [List.flatMap_cons,List.getElem?_append_left (by rw [hf];omega)];congr 1
  omega
 |y::l,k+1,j,x,h,hj=>by
  rw [List.getElem?_cons_succ] at h;rw [List.flatMap_cons,List.getElem?_append_right (by rw [hf,Nat.succ_mul];omega),hf,←Zel m f hf l k j x h hj];congr 1
  rw [Nat.succ_mul];omega
theorem Zdl (w:World)(cs:List Value)(T:TypeId):∀j u,cs[j]? =some u→(w.alloc (.cells cs.toArray T)).cell? ((⟨w.heap.size,0,none⟩:Addr).add j)=some u:=by
 intro j u hu;have hadd:(⟨w.heap.size,0,none⟩:Addr).add j=⟨w.heap.size,j,none⟩:=by unfold Addr.add;split<;>simp_all
 rw [hadd,cell_of_row _ w.heap.size j _ T (0,0) (heap_alloc_new w _)];simpa using hu
section
variable {ops:Array Oper} {rest:List Oper} {o:Oper} {a:Act} {Q:Exit→Act→World→Prop}
end
def lenV:Value→Nat
 | .slice _ n _=>n
 |_=>0
theorem ZcP {w:World} {base:Nat} {e:TypeId} {size:Nat} {v:Value} {n:Nat} {xs:List Value} (h:w.ownsRow base e size v n xs):lenV v=n∧∃A c,v= .slice A n c∧n≤c:=by
 rcases h.2 with⟨rfl,rfl⟩|⟨g,cap,cur,rfl,hb,hg,hnc,_⟩
 · exact⟨rfl,none,0,rfl,Nat.le_refl _⟩
 · exact⟨rfl,_,_,rfl,hnc⟩
section
variable {w0 w w':World} {K:Nat} {v:Int} {rev fl:UInt8} {fs:List Fr} {vl:Value} {s s':InS}
end
theorem Bx.same6 {w w':World} {g B:Nat} {cs:Array Value} {T:TypeId} (h:Bx w g cs T)(hb:Below B w w')(hg:g<B):Bx w' g cs T:=(hb.block g hg).trans h
namespace InS
end InS
theorem ZeB {P:Program} {fn:Func} {t q:Tmp} {ty2:TypeId} (h:fn.results=#[.tmp t,.cell q ty2])(tmps:Array Value)(w:World)(k:Nat)(T2:TypeId)(cs2:Array Value)(fr2:Nat×Nat)(d2:TypeDesc)(u:Value)
 (ht:tmps.getD t undef=u) (hq:tmps.getD q undef= .pointer (some ⟨k,0,none⟩)) (hk:w.heap[k]? =some (.cells cs2 T2 fr2))
 (hu2:P.underlying ty2=some d2) (hd2:(match d2 with| .struct _| .array _ _=>true|_=>false)=true) (hi2:(P.info? ty2).map (·.size)=some cs2.size):
 (results fn tmps).run P w= .ok (.tuple #[u,.agg cs2]) w:=by
 have ht':tmps[t]?.getD undef=u:=by simpa using ht
 have hq':tmps[q]?.getD undef= .pointer (some ⟨k,0,none⟩):=by simpa using hq
 simp [results,h,ht',hq',asAddr,run_loadVar_row w k T2 ty2 cs2 fr2 d2 hk hu2 hd2 hi2]
section
variable {w0 w w':World} {K H:Nat} {v:Int} {rev fl:UInt8} {s s':InS}
end
theorem ZpO {B:Nat} {a w:World} (h:Below B a w):Below B a w.drew:=below_drewN h 1
theorem Zcn {w:World} {g:Nat} {T:TypeId} {x0 x1:Value} (h:Bx w g #[x0,x1] T)(a b:Value):Bx ((w.setCell ⟨g,0,none⟩ a).setCell ⟨g,1,none⟩ b) g #[a,b] T:=by
 have h0:Bx (w.setCell ⟨g,0,none⟩ a) g #[a,x1] T:=h.put 0 a;exact h0.put 1 b
theorem Zg.set {α:Type} {f:α→List Value} {B:Nat} {w:World} {v:Value} {l:List α} (h:Zg f B w v l){g:Nat} (hg:g<B)(j:Nat)(u:Value):Zg f B (w.setCell ⟨g,j,none⟩ u) v l:=by
 rcases h with h|⟨bk,c,h0,h1,h2,h5,h3,h4⟩
 · exact .inl h
 · exact .inr ⟨bk,c,h0,h1,h2,h5,by simpa using h3,fun i x hx=>by rw [World.cell?_setCell_other _ _ _ _ (fun e=>by injection e with e;omega)];exact h4 i x hx⟩
def sV (y:List UInt8):Value:= .string (B y)
theorem Zic:(Tryz.prog.info? 9).map (fun i=>(i.zero,i.size,i.bytes))=some (some (.string ⟨#[]⟩),1,16):=by kernel_rfl
section
variable {ops:Array Oper} {rest:List Oper} {o:Oper} {a:Act} {Q:Exit→Act→World→Prop}
theorem ZjO (hgd:o.guard=none)(s x:Operand)(ho:o.op= .call {callee:= .builtin .append,args:=#[s,x],argTypes:=#[77,77]}) (base:Nat) (v:Value) (L:List (List UInt8)) (hs:a.eval s=v) (W:World) (y:List UInt8)
 (hown:W.ownsRow base 9 1 v L.length (L.map sV)) (hbase:base≤W.heap.size) (hlen:L.length≤16777216) (hx:a.eval x= .slice (some ⟨W.heap.size,0,none⟩) 1 1)
 (h:∀v' w',Hid (w'.ownsRow base 9 1 v' (L++[y]).length ((L++[y]).map sV))→Below base W w'→W.grownBy w' v.ownBlock→wpList Tryz.prog ops Q rest (a.put o.dst v') w'):
 wpList Tryz.prog ops Q (o::rest) a (W.alloc (.cells #[.string (B y)] 9)):=by
 obtain⟨i0,hi,iz0,iz1,iz2⟩:=info_parts Zic;refine wpList_append_own _ hgd s x 77 ho base 9 i0 _ 1 16 Tryz.underlying77 hi iz0 iz1 iz2 rfl (by decide) v L.length _ hs (hown.alloc _) ⟨W.heap.size,0,none⟩ 1 1 [sV y] hx rfl (Zdl W [sV y] _) ?_ (by unfold maxLen;omega) (by omega) (by simp;omega) ?_
 · intro u hu;simp only [List.mem_singleton] at hu;subst hu;rfl
 · intro v6 w6 hown6 hg6 _;refine h v6 w6 (Lib.hid ?_) (Zad ((Below.refl _ W).alloc hbase _) (hown.alloc _) hg6 (by simp;omega) (Nat.le_refl _)) ⟨hg6.os,hg6.tape,hg6.output,by have:=hg6.size;simp at this;omega,fun k hk hc=>(hg6.block k (by simp;omega) hc).trans (Below.heap_alloc _ _ _ hk)⟩;rw [List.length_append,List.map_append];exact hown6
end
theorem ZkR (l:List (List UInt8)):l.flatMap (fun y=>[sV y])=l.map sV:=by induction l with|nil=>rfl|cons a l ih=>rw [List.flatMap_cons,ih];rfl
theorem SJoin {base:Nat} {v:Value} {l:List (List UInt8)} {w:World} (h:w.ownsRow base 9 1 v l.length (l.map sV))(hl:l≠[])(hf:l.flatten.length≤35184372089000)(hn:l.length≤35184372089000):
 Calls Tryz.prog 20 #[v] w fun e w'=>e= .returned (.string (B l.flatten))∧Below w.heap.size w w':=by
 have hr:Zg (fun y=>[sV y]) base w v l:=Zg.of_own (e:=9) (m:=1) rfl (by rw [ZkR];exact h) (fun e=>absurd e hl);rcases hr with⟨h0,_⟩|⟨bk,c,h0,rfl,h2,h5,h3,h4⟩
 · exact absurd h0 hl
 · rw [ZkR] at h4;exact Zoy bk c l w (fun j x hx=>h4 j _ (by rw [List.getElem?_map,hx];rfl)) hl h2 hf hn
end Go.Proofs.YtlglfmbccihopaaGreatDoor
