/- Lemmas for a statement on the tops; conditions: as each says. -/
import Derived.Test.YtjilfbhkdjanhaaGreatDoorM29
set_option linter.all false
set_option maxRecDepth 100000
set_option maxHeartbeats 4000000
open Go.Proofs.Tryz
namespace Go.Proofs.YtjilfbhkdjanhaaGreatDoor
open Go Go.RowKit
def ZcD(p:List UInt8)(o:Option (List UInt8×List UInt8)):Option (List UInt8×List UInt8):=o.map λq=>(p++q.1,q.2)
def Zow(o:Option (List UInt8×List UInt8)):ZcD [] o=o:=by cases o<;>rfl
def Zox(a b:List UInt8)(o:Option (List UInt8×List UInt8)):ZcD a (ZcD b o)=ZcD (a++b) o:=by cases o<;>simp[ZcD]
def Ztd(l:List UInt8)(k:Nat)(h:k<l.length)(h0:l[k]=0):ZaU (l.drop k)=some ([],l.drop (k+1)):=by
 rw[List.drop_eq_getElem_cons h,ZaU,if_pos h0]
def Zte(l:List UInt8)(k:Nat)(h:k<l.length)(h0:l[k]≠0):ZaU (l.drop k)=ZcD [l[k]] (ZaU (l.drop (k+1))):=by
 rw[List.drop_eq_getElem_cons h,ZaU,if_neg h0];cases ZaU (l.drop (k+1))<;>rfl
def Ztg(l:List UInt8)(k:Nat)(h:k+1<l.length)(h0:l[k]=0/\l[k+1]=0):Z4 (l.drop k)=some ([],l.drop (k+2)):=by
 rw[List.drop_eq_getElem_cons (by omega),List.drop_eq_getElem_cons h,Z4,if_pos h0]
def Zth(l:List UInt8)(k:Nat)(h:k+1<l.length)(h0:¬(l[k]=0/\l[k+1]=0)):Z4 (l.drop k)=ZcD [l[k],l[k+1]] (Z4 (l.drop (k+2))):=by
 rw[List.drop_eq_getElem_cons (by omega),List.drop_eq_getElem_cons h,Z4,if_neg h0];cases Z4 (l.drop (k+2))<;>rfl
def Ztf(l:List UInt8)(k:Nat)(h:l.length<=k+1):Z4 (l.drop k)=none:=by
 have j:(l.drop k).length<=1:=by simp;omega
 match l.drop k,j with
 |[],_=>rfl
 |[x],_=>rfl
def Zke(l:List UInt8)(n k:Nat)(hn:n<=k)(h:k<l.length):(l.drop n).take (k+1 - n)=(l.drop n).take (k - n)++[l[k]]:=by
 rw[show k+1 - n=(k - n)+1 by omega,List.take_succ_eq_append_getElem (by simp;omega)];congr 2
 rw[List.getElem_drop];congr 1
 omega
def UtRel(s:InS)(i:Value)(cut:List UInt8->Option (List UInt8×List UInt8)):Prop:=∃k:Nat,s.n<=k/\k<=s.t.length/\i=.int .i64 k/\cut (s.t.drop s.n)=ZcD ((s.t.drop s.n).take (k - s.n)) (cut (s.t.drop k))
def ZlD(K:Nat)(s:InS)(w:World)(h:InAt w K s):
 Calls prog 215 #[.pointer (some ⟨K,0,none⟩),.string ⟨#[0]⟩] w (Zh K w (.string (B (s.until 1).1)) (s.until 1).2):=by
 generalize Z:Zh K w (.string (B (s.until 1).1)) (s.until 1).2=P at*;have H:=QQ h;by_cases h0:s.e=0
 ·have O:=λw h=>ZdL K s w h h0;have I:=λw h=>ZfO K s w h;unfold Zh at I;have hs:s.until 1=match ZaU (s.t.drop s.n) with
   |none=>([],s.short)
   |some q=>(q.1,{s with n:=s.n+q.1.length+1}):=by
   unfold InS.until Ze1;rw[if_neg (by omega)];rfl
  have N:=QQ hs;obtain⟨c0,c1,c2,c3,c4⟩:=h.get;have f1:=h.free 1;have y:=h.lt;have W:=h.fits;have ak:=h.len;have ai:=Zj s.t;clear hs h h0 c2 c3 c4;go_enter func215,ntmps215
  go_wp2_with (go_at_call 53;refine MR (O _ H.out) λw1 u=>?_;obtain⟨X,hf⟩:=Zcu u)
  have d0:=(X K 0 y).trans c0;have d1:=(X K 1 y).trans c1;have e1:=(hf K 1 y).trans f1;have L:=QQ u;clear X hf c0 c1 f1 u;go_loop [6] (λi=>UtRel s i ZaU) (λi=>s.t.length+1 - (intOf i).toNat)
  case atStart=>exact⟨s.n,Nat.le_refl _,W,rfl,by simp[Zow]⟩
  case round=>
   obtain⟨k,V,hk,rfl,he⟩:=hrel;by_cases j:k<s.t.length
   ·have an:(B s.t).extract k (k+1)=B [s.t[k]]:=by
     rw[Zby,show k+1 - k=1 by omega,List.drop_eq_getElem_cons j];rfl
    have am:((k:Int)+1).toNat=k+1:=by omega
    have U:(k:Int)<=(s.t.length:Int) - 1:=by omega
    by_cases C:s.t[k]=0
    ·have hq:((B [s.t[k]]).toList==[0])=true:=by rw[ByteArray.toList_eq,Z9,C];rfl
     have D:s.until 1=((s.t.drop s.n).take (k - s.n),{s with n:=k+1}):=by
      rw[N.out,he,Ztd _ k j C];simp only[ZcD,Option.map_some,List.append_nil];congr 1
      have:((s.t.drop s.n).take (k - s.n)).length=k - s.n:=by simp;omega
      rw[this,show s.n+(k - s.n)+1=k+1 by omega]
     have Hu:=QQ D;clear he C D;generalize s.t[k]=x at*;go_wp2_with fail
     go_quiet (fail)
     go_wp2_with fail
     show P (.returned (.string ((B s.t).extract s.n k))) _
     rw[Zby,<-Z,Hu.out];exact⟨rfl,((H.below L.out).drewN _).nextZ (k+1) ((k:Int)+1) (by omega) (by omega),((But.of (below_drewN L.out _))).setCell (p:=⟨K,1,none⟩) (.inr rfl) _⟩
    ·have hq:((B [s.t[k]]).toList==[0])=false:=by rw[ByteArray.toList_eq,Z9,beq_eq_false_iff_ne];intro e;simp only[List.cons.injEq,and_true] at e;exact C e
     have J:ZaU (s.t.drop s.n)=ZcD ((s.t.drop s.n).take (k+1 - s.n)) (ZaU (s.t.drop (k+1))):=by
      rw[he,Zte _ k j C,Zox,Zke s.t s.n k V j]
     have ab:=QQ J;clear he J C;generalize s.t[k]=x at*;go_wp2_with fail
     go_round
     case rel=>exact⟨k+1,by omega,by omega,by go_num,ab.out⟩
     case measure=>simp[intOf];omega
   ·have U:¬(k:Int)<=(s.t.length:Int) - 1:=by omega
    have D:s.until 1=([],s.short):=by
     have:ZaU (s.t.drop s.n)=none:=by rw[he,show s.t.drop k=[] from List.drop_of_length_le (by omega)];rfl
     rw[N.out,this]
    have Hu:=QQ D;clear he D;go_wp2_with (go_at_call 54;refine(I _ (H.below L.out)).mono ?_;rintro e w2 ⟨rfl,h2,Y⟩)
    show P (.returned (.string ⟨#[]⟩)) _
    rw[<-Z,Hu.out];exact⟨rfl,h2,(But.of L.out).trans (Y.mono L.size)⟩
 ·have O:=λw h=>ZdK K s w h h0;have hs:s.until 1=([],s):=by unfold InS.until;rw[if_pos h0]
  have N:=QQ hs;clear hs h h0;go_enter func215,ntmps215
  go_wp2_with (go_at_call 53;refine MR (O _ H.out) λw1 u=>?_)
  show P (.returned (.string ⟨#[]⟩)) _
  rw[<-Z,N.out];exact⟨rfl,H.below u,.of u⟩
def Until2(K:Nat)(s:InS)(w:World)(h:InAt w K s):
 Calls prog 215 #[.pointer (some ⟨K,0,none⟩),.string ⟨#[0,0]⟩] w (Zh K w (.string (B (s.until 2).1)) (s.until 2).2):=by
 generalize hP:Zh K w (.string (B (s.until 2).1)) (s.until 2).2=P at*;have H:=QQ h;by_cases h0:s.e=0
 ·have U:=λw h=>ZdL K s w h h0;have J:=λw h=>ZfO K s w h;unfold Zh at J;have hs:s.until 2=match Z4 (s.t.drop s.n) with
   |none=>([],s.short)
   |some q=>(q.1,{s with n:=s.n+q.1.length+2}):=by
   unfold InS.until Ze1;rw[if_neg (by omega)];rfl
  have O:=QQ hs;obtain⟨c0,c1,c2,c3,c4⟩:=h.get;have f1:=h.free 1;have D:=h.lt;have X:=h.fits;have am:=h.len;have aj:=Zj s.t;clear hs h h0 c2 c3 c4;go_enter func215,ntmps215
  go_wp2_with (go_at_call 53;refine MR (U _ H.out) λw1 u=>?_;obtain⟨Y,hf⟩:=Zcu u)
  have d0:=(Y K 0 D).trans c0;have d1:=(Y K 1 D).trans c1;have e1:=(hf K 1 D).trans f1;have N:=QQ u;clear Y hf c0 c1 f1 u;go_loop [6] (λi=>UtRel s i Z4) (λi=>s.t.length+1 - (intOf i).toNat)
  case atStart=>exact⟨s.n,Nat.le_refl _,X,rfl,by simp[Zow]⟩
  case round=>
   obtain⟨k,W,hk,rfl,he⟩:=hrel;by_cases j:k+1<s.t.length
   ·have ao:(B s.t).extract k (k+2)=B [s.t[k],s.t[k+1]]:=by
     rw[Zby,show k+2 - k=2 by omega,List.drop_eq_getElem_cons (show k<s.t.length by omega),List.drop_eq_getElem_cons j];rfl
    have an:((k:Int)+2).toNat=k+2:=by omega
    have V:(k:Int)<=(s.t.length:Int) - 2:=by omega
    by_cases C:s.t[k]=0/\s.t[k+1]=0
    ·have hq:((B [s.t[k],s.t[k+1]]).toList==[0,0])=true:=by rw[ByteArray.toList_eq,Z9,C.1,C.2];rfl
     have I:s.until 2=((s.t.drop s.n).take (k - s.n),{s with n:=k+2}):=by
      rw[O.out,he,Ztg _ k j C];simp only[ZcD,Option.map_some,List.append_nil];congr 1
      have:((s.t.drop s.n).take (k - s.n)).length=k - s.n:=by simp;omega
      rw[this,show s.n+(k - s.n)+2=k+2 by omega]
     have Hu:=QQ I;clear he C I;generalize s.t[k]=x at*;generalize s.t[k+1]=y at*;go_wp2_with fail
     go_quiet (fail)
     go_wp2_with fail
     show P (.returned (.string ((B s.t).extract s.n k))) _
     rw[Zby,<-hP,Hu.out];exact⟨rfl,((H.below N.out).drewN _).nextZ (k+2) ((k:Int)+2) (by omega) (by omega),((But.of (below_drewN N.out _))).setCell (p:=⟨K,1,none⟩) (.inr rfl) _⟩
    ·have hq:((B [s.t[k],s.t[k+1]]).toList==[0,0])=false:=by rw[ByteArray.toList_eq,Z9,beq_eq_false_iff_ne];intro e;simp only[List.cons.injEq,and_true] at e;exact C e
     have L:Z4 (s.t.drop s.n)=ZcD ((s.t.drop s.n).take (k+2 - s.n)) (Z4 (s.t.drop (k+2))):=by
      rw[he,Zth _ k j C,Zox,show k+2 - s.n=k+1+1 - s.n by omega,Zke s.t s.n (k+1) (by omega) j,Zke s.t s.n k W (by omega),List.append_assoc];rfl
     have ac:=QQ L;clear he L C;generalize s.t[k]=x at*;generalize s.t[k+1]=y at*;go_wp2_with fail
     go_round
     case rel=>exact⟨k+2,by omega,by omega,by go_num,ac.out⟩
     case measure=>simp[intOf];omega
   ·have V:¬(k:Int)<=(s.t.length:Int) - 2:=by omega
    have I:s.until 2=([],s.short):=by
     have:Z4 (s.t.drop s.n)=none:=by rw[he,Ztf _ k (by omega)];rfl
     rw[O.out,this]
    have Hu:=QQ I;clear he I;go_wp2_with (go_at_call 54;refine(J _ (H.below N.out)).mono ?_;rintro e w2 ⟨rfl,h2,Z⟩)
    show P (.returned (.string ⟨#[]⟩)) _
    rw[<-hP,Hu.out];exact⟨rfl,h2,(But.of N.out).trans (Z.mono N.size)⟩
 ·have U:=λw h=>ZdK K s w h h0;have hs:s.until 2=([],s):=by unfold InS.until;rw[if_pos h0]
  have O:=QQ hs;clear hs h h0;go_enter func215,ntmps215
  go_wp2_with (go_at_call 53;refine MR (U _ H.out) λw1 u=>?_)
  show P (.returned (.string ⟨#[]⟩)) _
  rw[<-hP,O.out];exact⟨rfl,H.below u,.of u⟩
def dplus(k:Nat):Zay->Zay
 | .inl ps=>.inl ps
 | .inr n=>.inr (n+k)
def Zck(l:List UInt8):Zay:=if l=[] then .inl [] else if Zci l=false then .inr 0 else dplus 2 (ZbO (Zai l) (l.drop 2))
def ZlU(l:List UInt8):behind (B l)=B (l.drop 2):=by
 unfold behind;rw[Zj,Zby,List.take_of_length_le (by simp)]
def Zk5(l:List UInt8)(y:l.length<=100000)(w:World):
 Calls prog 178 #[.string (B l)] w (Z6 (Zck l) w):=by
 have q:=Zj l;unfold Zck;by_cases h0:l=[]
 ·subst h0;rw[if_pos rfl];exact ZqT w
 rw[if_neg h0];have j:0<(B l).size:=by rw[q];exact List.length_pos_iff.2 h0
 cases u:Zci l with
 |false=>
  rw[if_pos rfl];exact ZqV (B l) j (by omega) (by rw[Z9];exact u) w
 |true=>
  rw[if_neg (by decide)];rcases ZgA (Zai l) (l.drop 2) with⟨ps,h,e⟩|⟨n,h,e⟩
  ·rw[e];exact(ZqU (B l) ps (by rw[Z9];exact u) (by rw[Z9,ZlU];exact h) (by omega) w).mono λe w' h=>⟨h.1,h.2⟩
  ·rw[e];exact(ZqS (B l) n (by rw[Z9];exact u) (by rw[Z9,ZlU];exact h) (by omega) w).mono λe w' h=>⟨h.1,h.2⟩
def wdR(set:Nat):Zay->Except (Nat×Nat) (List UInt8×Nat)
 | .inl ps=>.ok (Zd ps,set)
 | .inr n=>.error (2,n)
noncomputable def wdF(fb:Nat)(det:Bool)(enc:Nat)(l:List UInt8):Except (Nat×Nat) (List UInt8×Nat):=
 if enc=0 then wdR (Zde l [] fb det) (ZZ (Zde l [] fb det) l) else if enc=1 then wdR (if Zai l then 9 else 8) (Zck l) else if enc=2 then wdR 9 (ZbO true l) else wdR 7 (ZcX l)
def ZnH(l:List UInt8):∀(rs:List (List (List UInt8))) (k c:Nat),ZaL l rs k=some c->c<k+rs.length
 |[],_,_,h=>by simp[ZaL] at h
 |r::rs,k,c,h=>by
  rw[ZaL] at h;split at h
  ·injection h with h;subst h;simp
  ·have:=ZnH l rs (k+1) c h;simp;omega
def Zm7(l:List UInt8):∀(cs:List Nat) (g:Int×Nat×Bool) (m:Nat),(∀c∈cs,c<=m)->g.2.1<=m->(Z5 l cs g).2.1<=m
 |[],g,m,_,j=>by rw[Z5];exact j
 |c::cs,g,m,h,j=>by
  rw[Z5];refine Zm7 l cs _ m (λx q=>h x (List.mem_cons_of_mem _ q)) ?_;have u:=h c (List.mem_cons_self ..);split
  ·split
   ·exact u
   ·exact j
  ·exact j
def Zv0(l d:List UInt8)(fb:Nat)(det:Bool)(j:fb<=9):Zde l d fb det<=9:=by
 unfold Zde;split
 ·omega
 ·split
  ·rename_i c h
   unfold Zev at h;split at h
   ·cases h
   ·have:=ZnH _ _ _ _ h;have e:ZaM.length=10:=by decide
    omega
  ·split
   ·split
    ·rename_i c h
     have h:(if(Z5 l Zco (0,0,false)).2.2 then some (Z5 l Zco (0,0,false)).2.1 else none)=some c:=h;have q:=Zm7 l Zco (0,0,false) 6 (by decide) (by decide);split at h
     ·injection h with h;omega
     ·cases h
    ·exact j
   ·exact j
def Zbc(K:Nat)(s:InS)(k:Nat)(r:Except (Nat×Nat) (List UInt8×Nat))(w:World)(e:Ending)(w':World):Prop:=
 match r with
 | .ok t=>Zh K w (.tuple #[.string (B t.1),.int .i64 (t.2:Nat)]) s e w'
 | .error x=>Zh K w (.tuple #[.string ⟨#[]⟩,.int .i64 0]) (s.fail x.1 (k+x.2)) e w'
def Zpq(big:Bool)(l:List UInt8)(n:Nat)(h:ZbO big l=.inr n):n<=l.length:=by
 rcases ZgA big l with⟨u,j,e⟩|⟨m,j,e⟩
 ·rw[e] at h;cases h
 ·rw[e] at h;injection h with h;subst h
  obtain⟨ps,r,⟨q,_⟩,y,_⟩:=j;have:=congrArg List.length q;simp at this;omega
def ZiR{c:Nat}(l:List UInt8)(n:Nat)(h:ZZ c l=.inr n):n<=l.length:=by
 unfold ZZ at h;split at h
 ·cases h
 ·split at h
  ·have:=ZiO _ l 0 n h;omega
  ·split at h
   ·rcases Zd9 l with⟨q,j,e⟩|⟨m,j,e⟩
    ·rw[e] at h;cases h
    ·rw[e] at h;injection h with h;subst h
     have y:=j.lt;have u:(⟨l.toArray⟩:ByteArray).size=l.length:=Zj l;omega
   ·exact Zpq _ l n h
def Znz(l:List UInt8)(n:Nat)(h:Zck l=.inr n):n<=l.length+2:=by
 unfold Zck at h;split at h
 ·cases h
 ·split at h
  ·injection h with h;omega
  ·have hb:=Zpq (Zai l) (l.drop 2);generalize ZbO (Zai l) (l.drop 2)=r at*;cases r with
   |inl ps=>cases h
   |inr m=>injection h with h;subst h;have:=hb m rfl;simp at this;omega
def Words0(K:Nat)(s:InS)(J y:Int)(fb:Nat)(det:Bool)(l:List UInt8)(hl:l.length<=100000)(k:Nat)(hk:k<=1000000000)(w:World)(hG:Grd w)(h:InAt w K s)(aj:fb<=9):
 Calls prog 216 #[.agg #[.pointer (some ⟨K,0,none⟩),.int .u8 0,.int .i64 J,.int .i64 fb,.bool det,.int .i64 y],.string (B l),.int .i64 k] w (Zbc K s k (wdF fb det 0 l) w):=by
 have aM:=h.lt;have X0:Hid (Bx ((w.alloc (.cells #[.pointer (some ⟨K,0,none⟩),.int .u8 0,.int .i64 J,.int .i64 fb,.bool det,.int .i64 y] 191)).alloc (.cells #[.int .i64 0,.int .i64 0] 34)) w.heap.size #[.pointer (some ⟨K,0,none⟩),.int .u8 0,.int .i64 J,.int .i64 fb,.bool det,.int .i64 y] 191):=QQ ((Bx.new w _ _).alloc _);have Y0:Hid (Bx ((w.alloc (.cells #[.pointer (some ⟨K,0,none⟩),.int .u8 0,.int .i64 J,.int .i64 fb,.bool det,.int .i64 y] 191)).alloc (.cells #[.int .i64 0,.int .i64 0] 34)) (w.heap.size+1) #[.int .i64 0,.int .i64 0] 34):=QQ (by have:=Bx.new (w.alloc (.cells #[.pointer (some ⟨K,0,none⟩),.int .u8 0,.int .i64 J,.int .i64 fb,.bool det,.int .i64 y] 191)) #[.int .i64 0,.int .i64 0] 34;rw[World.size_alloc] at this;exact this);have H0:=QQ ((h.alloc (.cells #[.pointer (some ⟨K,0,none⟩),.int .u8 0,.int .i64 J,.int .i64 fb,.bool det,.int .i64 y] 191)).alloc (.cells #[.int .i64 0,.int .i64 0] 34));have L0:Hid (Below w.heap.size w ((w.alloc (.cells #[.pointer (some ⟨K,0,none⟩),.int .u8 0,.int .i64 J,.int .i64 fb,.bool det,.int .i64 y] 191)).alloc (.cells #[.int .i64 0,.int .i64 0] 34))):=QQ (((Below.refl _ w).alloc (Nat.le_refl _) _).alloc (by simp) _);have G0:=QQ ((hG.alloc (.cells #[.pointer (some ⟨K,0,none⟩),.int .u8 0,.int .i64 J,.int .i64 fb,.bool det,.int .i64 y] 191)).alloc (.cells #[.int .i64 0,.int .i64 0] 34));have N:=λw hG=>ZrC l [] hl (by simp) J y fb det w hG;have ah:=Zv0 l [] fb det aj;have hw:wdF fb det 0 l=wdR (Zde l [] fb det) (ZZ (Zde l [] fb det) l):=by unfold wdF;rw[if_pos rfl]
 rw[hw];clear hw;rw[show B []=⟨#[]⟩ from rfl] at N;generalize Zde l [] fb det=st at*;have C:=λw hG=>Zh7 st ah l hl w hG;have ai:∀n,ZZ st l=.inr n->n<=1000000:=λn hn=>by have:=ZiR l n hn;omega
 generalize ZZ st l=r at*;unfold Z6 at C;cases r with
 |inl ps=>
  unfold D2V at C;simp only at C;have O:=λw=>ZG 0 0 rfl w;generalize V:Zbc K s k (wdR st (.inl ps)) w=P at*;have D:∀w',InAt w' K s->But K w.heap.size w w'->P (.returned (.tuple #[.string (B (Zd ps)),.int .i64 (st:Nat)])) w':=λw' h1 h2=>by rw[<-V];exact⟨rfl,h1,h2⟩
  have HP:=QQ D;clear V D;generalize B (Zd ps)=T at*;go_enter func216,ntmps216
  go_wp2_with (first
   |(go_at_call 89;refine MR (N _ G0.out) λw1 j=>?_;have X1:=QQ (X0.below j);have Y1:=QQ (Y0.below j);have H1:=QQ (H0.below j);have Y:=QQ (L0.trans (j.mono L0.size));have G1:=QQ (G0.below j);clear j)
   |(go_at_call 91;refine MR (C _ G1.out) λw2 u=>?_;have X2:=QQ (X1.below u);have I:=QQ (Y1.below u);have H2:=QQ (H1.below u);have X:=QQ (Y.trans (u.mono Y.size));clear u;have y0:=I.cell 0;have y1:=I.cell 1;have g0:=I.free 0;have g1:=I.free 1)
   |(go_at_call 8;refine MR (O _) λw3 q=>?_;have X3:=QQ (((X2.set (k:=w.heap.size+1) (by omega) 0 _).set (k:=w.heap.size+1) (by omega) 1 _).below q);have W:=QQ (((I.put 0 _).put 1 _).below q);have H3:=QQ (((H2.set (g:=w.heap.size+1) (by omega) 0 _).set (g:=w.heap.size+1) (by omega) 1 _).below q);have Z:=QQ (((X.setCell (p:=⟨w.heap.size+1,0,none⟩) (Nat.le_succ _) _).setCell (p:=⟨w.heap.size+1,1,none⟩) (Nat.le_succ _) _).trans (q.mono (by have:=X.size;simpa[World.setCell] using this)));clear q;have af:=X3.cell 0;have ae:=W.cell 0;have ad:=W.cell 1)
   |(go_at_call 51;refine(L _ H3.out).mono ?_;rintro e w4 ⟨rfl,h4,U⟩))
  exact HP.out _ H3.out (.of Z.out)
 |inr n=>
  unfold D2V at C;simp only at C;have O:=λw=>ZV 2 n (by decide) w;have aL:n<=1000000:=ai n rfl;have L:=λw h=>Za2 K s 2 ((k:Int)+n) (by decide) (by omega) w h;rw[show((2:Int).toNat)=2 from rfl,show((k:Int)+n).toNat=k+n by omega] at L;unfold Zh at L;generalize V:Zbc K s k (wdR st (.inr n)) w=P at*;have D:∀w',InAt w' K (s.fail 2 (k+n))->But K w.heap.size w w'->P (.returned (.tuple #[.string ⟨#[]⟩,.int .i64 0])) w':=λw' h1 h2=>by rw[<-V];exact⟨rfl,h1,h2⟩
  have HP:=QQ D;clear V D;go_enter func216,ntmps216
  go_wp2_with (first
   |(go_at_call 89;refine MR (N _ G0.out) λw1 j=>?_;have X1:=QQ (X0.below j);have Y1:=QQ (Y0.below j);have H1:=QQ (H0.below j);have Y:=QQ (L0.trans (j.mono L0.size));have G1:=QQ (G0.below j);clear j)
   |(go_at_call 91;refine MR (C _ G1.out) λw2 u=>?_;have X2:=QQ (X1.below u);have I:=QQ (Y1.below u);have H2:=QQ (H1.below u);have X:=QQ (Y.trans (u.mono Y.size));clear u;have y0:=I.cell 0;have y1:=I.cell 1;have g0:=I.free 0;have g1:=I.free 1)
   |(go_at_call 8;refine MR (O _) λw3 q=>?_;have X3:=QQ (((X2.set (k:=w.heap.size+1) (by omega) 0 _).set (k:=w.heap.size+1) (by omega) 1 _).below q);have W:=QQ (((I.put 0 _).put 1 _).below q);have H3:=QQ (((H2.set (g:=w.heap.size+1) (by omega) 0 _).set (g:=w.heap.size+1) (by omega) 1 _).below q);have Z:=QQ (((X.setCell (p:=⟨w.heap.size+1,0,none⟩) (Nat.le_succ _) _).setCell (p:=⟨w.heap.size+1,1,none⟩) (Nat.le_succ _) _).trans (q.mono (by have:=X.size;simpa[World.setCell] using this)));clear q;have af:=X3.cell 0;have ae:=W.cell 0;have ad:=W.cell 1)
   |(go_at_call 51;refine(L _ H3.out).mono ?_;rintro e w4 ⟨rfl,h4,U⟩))
  exact HP.out _ h4 ((But.of Z.out).trans (U.mono Z.size))
def ZsA(K:Nat)(s:InS)(L y:Int)(fb:Nat)(det:Bool)(l:List UInt8)(hl:l.length<=100000)(k:Nat)(hk:k<=1000000000)(w:World)(hG:Grd w)(h:InAt w K s)(aJ:fb<=9)(hB:Zai l=true):
 Calls prog 216 #[.agg #[.pointer (some ⟨K,0,none⟩),.int .u8 1,.int .i64 L,.int .i64 fb,.bool det,.int .i64 y],.string (B l),.int .i64 k] w (Zbc K s k (wdF fb det 1 l) w):=by
 have aH:=h.lt;have X0:Hid (Bx ((w.alloc (.cells #[.pointer (some ⟨K,0,none⟩),.int .u8 1,.int .i64 L,.int .i64 fb,.bool det,.int .i64 y] 191)).alloc (.cells #[.int .i64 0,.int .i64 0] 34)) w.heap.size #[.pointer (some ⟨K,0,none⟩),.int .u8 1,.int .i64 L,.int .i64 fb,.bool det,.int .i64 y] 191):=QQ ((Bx.new w _ _).alloc _);have Y0:Hid (Bx ((w.alloc (.cells #[.pointer (some ⟨K,0,none⟩),.int .u8 1,.int .i64 L,.int .i64 fb,.bool det,.int .i64 y] 191)).alloc (.cells #[.int .i64 0,.int .i64 0] 34)) (w.heap.size+1) #[.int .i64 0,.int .i64 0] 34):=QQ (by have:=Bx.new (w.alloc (.cells #[.pointer (some ⟨K,0,none⟩),.int .u8 1,.int .i64 L,.int .i64 fb,.bool det,.int .i64 y] 191)) #[.int .i64 0,.int .i64 0] 34;rw[World.size_alloc] at this;exact this);have H0:=QQ ((h.alloc (.cells #[.pointer (some ⟨K,0,none⟩),.int .u8 1,.int .i64 L,.int .i64 fb,.bool det,.int .i64 y] 191)).alloc (.cells #[.int .i64 0,.int .i64 0] 34));have L0:Hid (Below w.heap.size w ((w.alloc (.cells #[.pointer (some ⟨K,0,none⟩),.int .u8 1,.int .i64 L,.int .i64 fb,.bool det,.int .i64 y] 191)).alloc (.cells #[.int .i64 0,.int .i64 0] 34))):=QQ (((Below.refl _ w).alloc (Nat.le_refl _) _).alloc (by simp) _);have G0:=QQ ((hG.alloc (.cells #[.pointer (some ⟨K,0,none⟩),.int .u8 1,.int .i64 L,.int .i64 fb,.bool det,.int .i64 y] 191)).alloc (.cells #[.int .i64 0,.int .i64 0] 34));have hw:Zai l=true->wdF fb det 1 l=wdR 9 (Zck l):=λhB=>by unfold wdF;rw[if_neg (by decide),if_pos rfl,hB];rfl
 rw[hw hB];clear hw;have N:=λw=>ZfI (B l) (by rw[Zj];omega) w;rw[Z9,hB] at N;have C:=λw=>Zk5 l hl w;have af:∀n,Zck l=.inr n->n<=1000000:=λn hn=>by have:=Znz l n hn;omega
 generalize Zck l=r at*;generalize Zci l=im at*;unfold Z6 at C;cases r with
 |inl ps=>
  unfold D2V at C;simp only at C;have O:=λw=>ZG 0 0 rfl w;generalize V:Zbc K s k (wdR 9 (.inl ps)) w=P at*;have D:∀w',InAt w' K s->But K w.heap.size w w'->P (.returned (.tuple #[.string (B (Zd ps)),.int .i64 (9:Nat)])) w':=λw' h1 h2=>by rw[<-V];exact⟨rfl,h1,h2⟩
  have HP:=QQ D;clear V D;generalize B (Zd ps)=T at*;go_enter func216,ntmps216
  go_wp2_with (first
   |(go_at_call 247;refine MR (N _) λw1 u=>?_;have X1:=QQ (X0.below u);have Y1:=QQ (Y0.below u);have H1:=QQ (H0.below u);have Y:=QQ (L0.trans (u.mono L0.size));clear u)
   |(go_at_call 178;refine MR (C _) λw2 q=>?_;have X2:=QQ (X1.below q);have I:=QQ (Y1.below q);have H2:=QQ (H1.below q);have X:=QQ (Y.trans (q.mono Y.size));clear q;have y0:=I.cell 0;have y1:=I.cell 1;have g0:=I.free 0;have g1:=I.free 1)
   |(go_at_call 8;refine MR (O _) λw3 j=>?_;have X3:=QQ (((X2.set (k:=w.heap.size+1) (by omega) 0 _).set (k:=w.heap.size+1) (by omega) 1 _).below j);have W:=QQ (((I.put 0 _).put 1 _).below j);have H3:=QQ (((H2.set (g:=w.heap.size+1) (by omega) 0 _).set (g:=w.heap.size+1) (by omega) 1 _).below j);have Z:=QQ (((X.setCell (p:=⟨w.heap.size+1,0,none⟩) (Nat.le_succ _) _).setCell (p:=⟨w.heap.size+1,1,none⟩) (Nat.le_succ _) _).trans (j.mono (by have:=X.size;simpa[World.setCell] using this)));clear j;have ae:=X3.cell 0;have ad:=W.cell 0;have ac:=W.cell 1)
   |(go_at_call 51;refine(J _ H3.out).mono ?_;rintro e w4 ⟨rfl,h4,U⟩))
  exact HP.out _ H3.out (.of Z.out)
 |inr n=>
  unfold D2V at C;simp only at C;have O:=λw=>ZV 2 n (by decide) w;have aG:n<=1000000:=af n rfl;have J:=λw h=>Za2 K s 2 ((k:Int)+n) (by decide) (by omega) w h;rw[show((2:Int).toNat)=2 from rfl,show((k:Int)+n).toNat=k+n by omega] at J;unfold Zh at J;generalize V:Zbc K s k (wdR 9 (.inr n)) w=P at*;have D:∀w',InAt w' K (s.fail 2 (k+n))->But K w.heap.size w w'->P (.returned (.tuple #[.string ⟨#[]⟩,.int .i64 0])) w':=λw' h1 h2=>by rw[<-V];exact⟨rfl,h1,h2⟩
  have HP:=QQ D;clear V D;go_enter func216,ntmps216
  go_wp2_with (first
   |(go_at_call 247;refine MR (N _) λw1 u=>?_;have X1:=QQ (X0.below u);have Y1:=QQ (Y0.below u);have H1:=QQ (H0.below u);have Y:=QQ (L0.trans (u.mono L0.size));clear u)
   |(go_at_call 178;refine MR (C _) λw2 q=>?_;have X2:=QQ (X1.below q);have I:=QQ (Y1.below q);have H2:=QQ (H1.below q);have X:=QQ (Y.trans (q.mono Y.size));clear q;have y0:=I.cell 0;have y1:=I.cell 1;have g0:=I.free 0;have g1:=I.free 1)
   |(go_at_call 8;refine MR (O _) λw3 j=>?_;have X3:=QQ (((X2.set (k:=w.heap.size+1) (by omega) 0 _).set (k:=w.heap.size+1) (by omega) 1 _).below j);have W:=QQ (((I.put 0 _).put 1 _).below j);have H3:=QQ (((H2.set (g:=w.heap.size+1) (by omega) 0 _).set (g:=w.heap.size+1) (by omega) 1 _).below j);have Z:=QQ (((X.setCell (p:=⟨w.heap.size+1,0,none⟩) (Nat.le_succ _) _).setCell (p:=⟨w.heap.size+1,1,none⟩) (Nat.le_succ _) _).trans (j.mono (by have:=X.size;simpa[World.setCell] using this)));clear j;have ae:=X3.cell 0;have ad:=W.cell 0;have ac:=W.cell 1)
   |(go_at_call 51;refine(J _ H3.out).mono ?_;rintro e w4 ⟨rfl,h4,U⟩))
  exact HP.out _ h4 ((But.of Z.out).trans (U.mono Z.size))
def Zsz(K:Nat)(s:InS)(L y:Int)(fb:Nat)(det:Bool)(l:List UInt8)(hl:l.length<=100000)(k:Nat)(hk:k<=1000000000)(w:World)(hG:Grd w)(h:InAt w K s)(aJ:fb<=9)(hB:Zai l=false):
 Calls prog 216 #[.agg #[.pointer (some ⟨K,0,none⟩),.int .u8 1,.int .i64 L,.int .i64 fb,.bool det,.int .i64 y],.string (B l),.int .i64 k] w (Zbc K s k (wdF fb det 1 l) w):=by
 have aH:=h.lt;have X0:Hid (Bx ((w.alloc (.cells #[.pointer (some ⟨K,0,none⟩),.int .u8 1,.int .i64 L,.int .i64 fb,.bool det,.int .i64 y] 191)).alloc (.cells #[.int .i64 0,.int .i64 0] 34)) w.heap.size #[.pointer (some ⟨K,0,none⟩),.int .u8 1,.int .i64 L,.int .i64 fb,.bool det,.int .i64 y] 191):=QQ ((Bx.new w _ _).alloc _);have Y0:Hid (Bx ((w.alloc (.cells #[.pointer (some ⟨K,0,none⟩),.int .u8 1,.int .i64 L,.int .i64 fb,.bool det,.int .i64 y] 191)).alloc (.cells #[.int .i64 0,.int .i64 0] 34)) (w.heap.size+1) #[.int .i64 0,.int .i64 0] 34):=QQ (by have:=Bx.new (w.alloc (.cells #[.pointer (some ⟨K,0,none⟩),.int .u8 1,.int .i64 L,.int .i64 fb,.bool det,.int .i64 y] 191)) #[.int .i64 0,.int .i64 0] 34;rw[World.size_alloc] at this;exact this);have H0:=QQ ((h.alloc (.cells #[.pointer (some ⟨K,0,none⟩),.int .u8 1,.int .i64 L,.int .i64 fb,.bool det,.int .i64 y] 191)).alloc (.cells #[.int .i64 0,.int .i64 0] 34));have L0:Hid (Below w.heap.size w ((w.alloc (.cells #[.pointer (some ⟨K,0,none⟩),.int .u8 1,.int .i64 L,.int .i64 fb,.bool det,.int .i64 y] 191)).alloc (.cells #[.int .i64 0,.int .i64 0] 34))):=QQ (((Below.refl _ w).alloc (Nat.le_refl _) _).alloc (by simp) _);have G0:=QQ ((hG.alloc (.cells #[.pointer (some ⟨K,0,none⟩),.int .u8 1,.int .i64 L,.int .i64 fb,.bool det,.int .i64 y] 191)).alloc (.cells #[.int .i64 0,.int .i64 0] 34));have hw:Zai l=false->wdF fb det 1 l=wdR 8 (Zck l):=λhB=>by unfold wdF;rw[if_neg (by decide),if_pos rfl,hB];rfl
 rw[hw hB];clear hw;have N:=λw=>ZfI (B l) (by rw[Zj];omega) w;rw[Z9,hB] at N;have C:=λw=>Zk5 l hl w;have af:∀n,Zck l=.inr n->n<=1000000:=λn hn=>by have:=Znz l n hn;omega
 generalize Zck l=r at*;generalize Zci l=im at*;unfold Z6 at C;cases r with
 |inl ps=>
  unfold D2V at C;simp only at C;have O:=λw=>ZG 0 0 rfl w;generalize V:Zbc K s k (wdR 8 (.inl ps)) w=P at*;have D:∀w',InAt w' K s->But K w.heap.size w w'->P (.returned (.tuple #[.string (B (Zd ps)),.int .i64 (8:Nat)])) w':=λw' h1 h2=>by rw[<-V];exact⟨rfl,h1,h2⟩
  have HP:=QQ D;clear V D;generalize B (Zd ps)=T at*;go_enter func216,ntmps216
  go_wp2_with (first
   |(go_at_call 247;refine MR (N _) λw1 u=>?_;have X1:=QQ (X0.below u);have Y1:=QQ (Y0.below u);have H1:=QQ (H0.below u);have Y:=QQ (L0.trans (u.mono L0.size));clear u)
   |(go_at_call 178;refine MR (C _) λw2 q=>?_;have X2:=QQ (X1.below q);have I:=QQ (Y1.below q);have H2:=QQ (H1.below q);have X:=QQ (Y.trans (q.mono Y.size));clear q;have y0:=I.cell 0;have y1:=I.cell 1;have g0:=I.free 0;have g1:=I.free 1)
   |(go_at_call 8;refine MR (O _) λw3 j=>?_;have X3:=QQ (((X2.set (k:=w.heap.size+1) (by omega) 0 _).set (k:=w.heap.size+1) (by omega) 1 _).below j);have W:=QQ (((I.put 0 _).put 1 _).below j);have H3:=QQ (((H2.set (g:=w.heap.size+1) (by omega) 0 _).set (g:=w.heap.size+1) (by omega) 1 _).below j);have Z:=QQ (((X.setCell (p:=⟨w.heap.size+1,0,none⟩) (Nat.le_succ _) _).setCell (p:=⟨w.heap.size+1,1,none⟩) (Nat.le_succ _) _).trans (j.mono (by have:=X.size;simpa[World.setCell] using this)));clear j;have ae:=X3.cell 0;have ad:=W.cell 0;have ac:=W.cell 1)
   |(go_at_call 51;refine(J _ H3.out).mono ?_;rintro e w4 ⟨rfl,h4,U⟩))
  exact HP.out _ H3.out (.of Z.out)
 |inr n=>
  unfold D2V at C;simp only at C;have O:=λw=>ZV 2 n (by decide) w;have aG:n<=1000000:=af n rfl;have J:=λw h=>Za2 K s 2 ((k:Int)+n) (by decide) (by omega) w h;rw[show((2:Int).toNat)=2 from rfl,show((k:Int)+n).toNat=k+n by omega] at J;unfold Zh at J;generalize V:Zbc K s k (wdR 8 (.inr n)) w=P at*;have D:∀w',InAt w' K (s.fail 2 (k+n))->But K w.heap.size w w'->P (.returned (.tuple #[.string ⟨#[]⟩,.int .i64 0])) w':=λw' h1 h2=>by rw[<-V];exact⟨rfl,h1,h2⟩
  have HP:=QQ D;clear V D;go_enter func216,ntmps216
  go_wp2_with (first
   |(go_at_call 247;refine MR (N _) λw1 u=>?_;have X1:=QQ (X0.below u);have Y1:=QQ (Y0.below u);have H1:=QQ (H0.below u);have Y:=QQ (L0.trans (u.mono L0.size));clear u)
   |(go_at_call 178;refine MR (C _) λw2 q=>?_;have X2:=QQ (X1.below q);have I:=QQ (Y1.below q);have H2:=QQ (H1.below q);have X:=QQ (Y.trans (q.mono Y.size));clear q;have y0:=I.cell 0;have y1:=I.cell 1;have g0:=I.free 0;have g1:=I.free 1)
   |(go_at_call 8;refine MR (O _) λw3 j=>?_;have X3:=QQ (((X2.set (k:=w.heap.size+1) (by omega) 0 _).set (k:=w.heap.size+1) (by omega) 1 _).below j);have W:=QQ (((I.put 0 _).put 1 _).below j);have H3:=QQ (((H2.set (g:=w.heap.size+1) (by omega) 0 _).set (g:=w.heap.size+1) (by omega) 1 _).below j);have Z:=QQ (((X.setCell (p:=⟨w.heap.size+1,0,none⟩) (Nat.le_succ _) _).setCell (p:=⟨w.heap.size+1,1,none⟩) (Nat.le_succ _) _).trans (j.mono (by have:=X.size;simpa[World.setCell] using this)));clear j;have ae:=X3.cell 0;have ad:=W.cell 0;have ac:=W.cell 1)
   |(go_at_call 51;refine(J _ H3.out).mono ?_;rintro e w4 ⟨rfl,h4,U⟩))
  exact HP.out _ h4 ((But.of Z.out).trans (U.mono Z.size))
def Words2(K:Nat)(s:InS)(J u:Int)(fb:Nat)(det:Bool)(l:List UInt8)(hl:l.length<=100000)(k:Nat)(hk:k<=1000000000)(w:World)(hG:Grd w)(h:InAt w K s)(aD:fb<=9):
 Calls prog 216 #[.agg #[.pointer (some ⟨K,0,none⟩),.int .u8 2,.int .i64 J,.int .i64 fb,.bool det,.int .i64 u],.string (B l),.int .i64 k] w (Zbc K s k (wdF fb det 2 l) w):=by
 have aB:=h.lt;have X0:Hid (Bx ((w.alloc (.cells #[.pointer (some ⟨K,0,none⟩),.int .u8 2,.int .i64 J,.int .i64 fb,.bool det,.int .i64 u] 191)).alloc (.cells #[.int .i64 0,.int .i64 0] 34)) w.heap.size #[.pointer (some ⟨K,0,none⟩),.int .u8 2,.int .i64 J,.int .i64 fb,.bool det,.int .i64 u] 191):=QQ ((Bx.new w _ _).alloc _);have Y0:Hid (Bx ((w.alloc (.cells #[.pointer (some ⟨K,0,none⟩),.int .u8 2,.int .i64 J,.int .i64 fb,.bool det,.int .i64 u] 191)).alloc (.cells #[.int .i64 0,.int .i64 0] 34)) (w.heap.size+1) #[.int .i64 0,.int .i64 0] 34):=QQ (by have:=Bx.new (w.alloc (.cells #[.pointer (some ⟨K,0,none⟩),.int .u8 2,.int .i64 J,.int .i64 fb,.bool det,.int .i64 u] 191)) #[.int .i64 0,.int .i64 0] 34;rw[World.size_alloc] at this;exact this);have H0:=QQ ((h.alloc (.cells #[.pointer (some ⟨K,0,none⟩),.int .u8 2,.int .i64 J,.int .i64 fb,.bool det,.int .i64 u] 191)).alloc (.cells #[.int .i64 0,.int .i64 0] 34));have X:Hid (Below w.heap.size w ((w.alloc (.cells #[.pointer (some ⟨K,0,none⟩),.int .u8 2,.int .i64 J,.int .i64 fb,.bool det,.int .i64 u] 191)).alloc (.cells #[.int .i64 0,.int .i64 0] 34))):=QQ (((Below.refl _ w).alloc (Nat.le_refl _) _).alloc (by simp) _);have G0:=QQ ((hG.alloc (.cells #[.pointer (some ⟨K,0,none⟩),.int .u8 2,.int .i64 J,.int .i64 fb,.bool det,.int .i64 u] 191)).alloc (.cells #[.int .i64 0,.int .i64 0] 34));have hw:wdF fb det 2 l=wdR 9 (ZZ 9 l):=by unfold wdF ZZ;rw[if_neg (by decide),if_neg (by decide),if_pos rfl];rfl
 rw[hw];clear hw;have y:=λw (_:Grd w)=>ZpR l hl w;have ac:∀n,ZZ 9 l=.inr n->n<=1000000:=λn hn=>by have:=ZiR l n hn;omega
 generalize ZZ 9 l=r at*;unfold Z6 at y;cases r with
 |inl ps=>
  unfold D2V at y;simp only at y;have L:=λw=>ZG 0 0 rfl w;generalize O:Zbc K s k (wdR 9 (.inl ps)) w=P at*;have C:∀w',InAt w' K s->But K w.heap.size w w'->P (.returned (.tuple #[.string (B (Zd ps)),.int .i64 (9:Nat)])) w':=λw' h1 h2=>by rw[<-O];exact⟨rfl,h1,h2⟩
  have HP:=QQ C;clear O C;generalize B (Zd ps)=T at*;go_enter func216,ntmps216
  go_wp2_with (first
   |(go_at_call 91;refine MR (y _ G0.out) λw2 q=>?_;have X2:=QQ (X0.below q);have D:=QQ (Y0.below q);have H2:=QQ (H0.below q);have V:=QQ (X.trans (q.mono X.size));clear q;have y0:=D.cell 0;have y1:=D.cell 1;have g0:=D.free 0;have g1:=D.free 1)
   |(go_at_call 8;refine MR (L _) λw3 j=>?_;have X3:=QQ (((X2.set (k:=w.heap.size+1) (by omega) 0 _).set (k:=w.heap.size+1) (by omega) 1 _).below j);have U:=QQ (((D.put 0 _).put 1 _).below j);have Y:=QQ (((H2.set (g:=w.heap.size+1) (by omega) 0 _).set (g:=w.heap.size+1) (by omega) 1 _).below j);have W:=QQ (((V.setCell (p:=⟨w.heap.size+1,0,none⟩) (Nat.le_succ _) _).setCell (p:=⟨w.heap.size+1,1,none⟩) (Nat.le_succ _) _).trans (j.mono (by have:=V.size;simpa[World.setCell] using this)));clear j;have ab:=X3.cell 0;have aa:=U.cell 0;have Z:=U.cell 1)
   |(go_at_call 51;refine(I _ Y.out).mono ?_;rintro e w4 ⟨rfl,h4,N⟩))
  exact HP.out _ Y.out (.of W.out)
 |inr n=>
  unfold D2V at y;simp only at y;have L:=λw=>ZV 2 n (by decide) w;have aA:n<=1000000:=ac n rfl;have I:=λw h=>Za2 K s 2 ((k:Int)+n) (by decide) (by omega) w h;rw[show((2:Int).toNat)=2 from rfl,show((k:Int)+n).toNat=k+n by omega] at I;unfold Zh at I;generalize O:Zbc K s k (wdR 9 (.inr n)) w=P at*;have C:∀w',InAt w' K (s.fail 2 (k+n))->But K w.heap.size w w'->P (.returned (.tuple #[.string ⟨#[]⟩,.int .i64 0])) w':=λw' h1 h2=>by rw[<-O];exact⟨rfl,h1,h2⟩
  have HP:=QQ C;clear O C;go_enter func216,ntmps216
  go_wp2_with (first
   |(go_at_call 91;refine MR (y _ G0.out) λw2 q=>?_;have X2:=QQ (X0.below q);have D:=QQ (Y0.below q);have H2:=QQ (H0.below q);have V:=QQ (X.trans (q.mono X.size));clear q;have y0:=D.cell 0;have y1:=D.cell 1;have g0:=D.free 0;have g1:=D.free 1)
   |(go_at_call 8;refine MR (L _) λw3 j=>?_;have X3:=QQ (((X2.set (k:=w.heap.size+1) (by omega) 0 _).set (k:=w.heap.size+1) (by omega) 1 _).below j);have U:=QQ (((D.put 0 _).put 1 _).below j);have Y:=QQ (((H2.set (g:=w.heap.size+1) (by omega) 0 _).set (g:=w.heap.size+1) (by omega) 1 _).below j);have W:=QQ (((V.setCell (p:=⟨w.heap.size+1,0,none⟩) (Nat.le_succ _) _).setCell (p:=⟨w.heap.size+1,1,none⟩) (Nat.le_succ _) _).trans (j.mono (by have:=V.size;simpa[World.setCell] using this)));clear j;have ab:=X3.cell 0;have aa:=U.cell 0;have Z:=U.cell 1)
   |(go_at_call 51;refine(I _ Y.out).mono ?_;rintro e w4 ⟨rfl,h4,N⟩))
  exact HP.out _ h4 ((But.of W.out).trans (N.mono W.size))
def Words3(K:Nat)(s:InS)(C:Nat)(ae:3<=C/\C<=255)(L u:Int)(fb:Nat)(det:Bool)(l:List UInt8)(hl:l.length<=100000)(k:Nat)(hk:k<=1000000000)(w:World)(hG:Grd w)(h:InAt w K s)(aF:fb<=9):
 Calls prog 216 #[.agg #[.pointer (some ⟨K,0,none⟩),.int .u8 C,.int .i64 L,.int .i64 fb,.bool det,.int .i64 u],.string (B l),.int .i64 k] w (Zbc K s k (wdF fb det C l) w):=by
 have aD:=h.lt;have X0:Hid (Bx ((w.alloc (.cells #[.pointer (some ⟨K,0,none⟩),.int .u8 C,.int .i64 L,.int .i64 fb,.bool det,.int .i64 u] 191)).alloc (.cells #[.int .i64 0,.int .i64 0] 34)) w.heap.size #[.pointer (some ⟨K,0,none⟩),.int .u8 C,.int .i64 L,.int .i64 fb,.bool det,.int .i64 u] 191):=QQ ((Bx.new w _ _).alloc _);have Y0:Hid (Bx ((w.alloc (.cells #[.pointer (some ⟨K,0,none⟩),.int .u8 C,.int .i64 L,.int .i64 fb,.bool det,.int .i64 u] 191)).alloc (.cells #[.int .i64 0,.int .i64 0] 34)) (w.heap.size+1) #[.int .i64 0,.int .i64 0] 34):=QQ (by have:=Bx.new (w.alloc (.cells #[.pointer (some ⟨K,0,none⟩),.int .u8 C,.int .i64 L,.int .i64 fb,.bool det,.int .i64 u] 191)) #[.int .i64 0,.int .i64 0] 34;rw[World.size_alloc] at this;exact this);have H0:=QQ ((h.alloc (.cells #[.pointer (some ⟨K,0,none⟩),.int .u8 C,.int .i64 L,.int .i64 fb,.bool det,.int .i64 u] 191)).alloc (.cells #[.int .i64 0,.int .i64 0] 34));have Y:Hid (Below w.heap.size w ((w.alloc (.cells #[.pointer (some ⟨K,0,none⟩),.int .u8 C,.int .i64 L,.int .i64 fb,.bool det,.int .i64 u] 191)).alloc (.cells #[.int .i64 0,.int .i64 0] 34))):=QQ (((Below.refl _ w).alloc (Nat.le_refl _) _).alloc (by simp) _);have G0:=QQ ((hG.alloc (.cells #[.pointer (some ⟨K,0,none⟩),.int .u8 C,.int .i64 L,.int .i64 fb,.bool det,.int .i64 u] 191)).alloc (.cells #[.int .i64 0,.int .i64 0] 34));have hw:wdF fb det C l=wdR 7 (ZZ 7 l):=by unfold wdF ZZ;rw[if_neg (by omega),if_neg (by omega),if_neg (by omega)];rfl
 rw[hw];clear hw;have q0:((C:Int)==0)=false:=by rw[beq_eq_false_iff_ne];omega
 have q1:((C:Int)==1)=false:=by rw[beq_eq_false_iff_ne];omega
 have q2:((C:Int)==2)=false:=by rw[beq_eq_false_iff_ne];omega
 clear ae;have y:=λw hG=>ZpQ l hl w hG;have ad:∀n,ZZ 7 l=.inr n->n<=1000000:=λn hn=>by have:=ZiR l n hn;omega
 generalize ZZ 7 l=r at*;unfold Z6 at y;cases r with
 |inl ps=>
  unfold D2V at y;simp only at y;have N:=λw=>ZG 0 0 rfl w;generalize U:Zbc K s k (wdR 7 (.inl ps)) w=P at*;have D:∀w',InAt w' K s->But K w.heap.size w w'->P (.returned (.tuple #[.string (B (Zd ps)),.int .i64 (7:Nat)])) w':=λw' h1 h2=>by rw[<-U];exact⟨rfl,h1,h2⟩
  have HP:=QQ D;clear U D;generalize B (Zd ps)=T at*;go_enter func216,ntmps216
  go_wp2_with (first
   |(go_at_call 91;refine MR (y _ G0.out) λw2 q=>?_;have X2:=QQ (X0.below q);have I:=QQ (Y0.below q);have H2:=QQ (H0.below q);have W:=QQ (Y.trans (q.mono Y.size));clear q;have y0:=I.cell 0;have y1:=I.cell 1;have g0:=I.free 0;have g1:=I.free 1)
   |(go_at_call 8;refine MR (N _) λw3 j=>?_;have X3:=QQ (((X2.set (k:=w.heap.size+1) (by omega) 0 _).set (k:=w.heap.size+1) (by omega) 1 _).below j);have V:=QQ (((I.put 0 _).put 1 _).below j);have Z:=QQ (((H2.set (g:=w.heap.size+1) (by omega) 0 _).set (g:=w.heap.size+1) (by omega) 1 _).below j);have X:=QQ (((W.setCell (p:=⟨w.heap.size+1,0,none⟩) (Nat.le_succ _) _).setCell (p:=⟨w.heap.size+1,1,none⟩) (Nat.le_succ _) _).trans (j.mono (by have:=W.size;simpa[World.setCell] using this)));clear j;have ac:=X3.cell 0;have ab:=V.cell 0;have aa:=V.cell 1)
   |(go_at_call 51;refine(J _ Z.out).mono ?_;rintro e w4 ⟨rfl,h4,O⟩))
  exact HP.out _ Z.out (.of X.out)
 |inr n=>
  unfold D2V at y;simp only at y;have N:=λw=>ZV 2 n (by decide) w;have aC:n<=1000000:=ad n rfl;have J:=λw h=>Za2 K s 2 ((k:Int)+n) (by decide) (by omega) w h;rw[show((2:Int).toNat)=2 from rfl,show((k:Int)+n).toNat=k+n by omega] at J;unfold Zh at J;generalize U:Zbc K s k (wdR 7 (.inr n)) w=P at*;have D:∀w',InAt w' K (s.fail 2 (k+n))->But K w.heap.size w w'->P (.returned (.tuple #[.string ⟨#[]⟩,.int .i64 0])) w':=λw' h1 h2=>by rw[<-U];exact⟨rfl,h1,h2⟩
  have HP:=QQ D;clear U D;go_enter func216,ntmps216
  go_wp2_with (first
   |(go_at_call 91;refine MR (y _ G0.out) λw2 q=>?_;have X2:=QQ (X0.below q);have I:=QQ (Y0.below q);have H2:=QQ (H0.below q);have W:=QQ (Y.trans (q.mono Y.size));clear q;have y0:=I.cell 0;have y1:=I.cell 1;have g0:=I.free 0;have g1:=I.free 1)
   |(go_at_call 8;refine MR (N _) λw3 j=>?_;have X3:=QQ (((X2.set (k:=w.heap.size+1) (by omega) 0 _).set (k:=w.heap.size+1) (by omega) 1 _).below j);have V:=QQ (((I.put 0 _).put 1 _).below j);have Z:=QQ (((H2.set (g:=w.heap.size+1) (by omega) 0 _).set (g:=w.heap.size+1) (by omega) 1 _).below j);have X:=QQ (((W.setCell (p:=⟨w.heap.size+1,0,none⟩) (Nat.le_succ _) _).setCell (p:=⟨w.heap.size+1,1,none⟩) (Nat.le_succ _) _).trans (j.mono (by have:=W.size;simpa[World.setCell] using this)));clear j;have ac:=X3.cell 0;have ab:=V.cell 0;have aa:=V.cell 1)
   |(go_at_call 51;refine(J _ Z.out).mono ?_;rintro e w4 ⟨rfl,h4,O⟩))
  exact HP.out _ h4 ((But.of X.out).trans (O.mono X.size))
def ZsB(K:Nat)(s:InS)(u:Nat)(I:u<=255)(y j:Int)(fb:Nat)(det:Bool)(l:List UInt8)(C:l.length<=100000)(k:Nat)(D:k<=1000000000)(w:World)(hG:Grd w)(h:InAt w K s)(q:fb<=9):
 Calls prog 216 #[.agg #[.pointer (some ⟨K,0,none⟩),.int .u8 u,.int .i64 y,.int .i64 fb,.bool det,.int .i64 j],.string (B l),.int .i64 k] w (Zbc K s k (wdF fb det u l) w):=by
 by_cases h0:u=0
 ·subst h0;exact Words0 K s y j fb det l C k D w hG h q
 by_cases L:u=1
 ·subst L;cases hb:Zai l with
  |true=>exact ZsA K s y j fb det l C k D w hG h q hb
  |false=>exact Zsz K s y j fb det l C k D w hG h q hb
 by_cases J:u=2
 ·subst J;exact Words2 K s y j fb det l C k D w hG h q
 exact Words3 K s u ⟨by omega,I⟩ y j fb det l C k D w hG h q
def Zab(K:Nat)(u:Nat)(q j:Int)(fb:Nat)(det:Bool):Array Value:=#[.pointer (some ⟨K,0,none⟩),.int .u8 u,.int .i64 q,.int .i64 fb,.bool det,.int .i64 j]
def ZkS(K:Value)(j:Nat)(h:j=1\/j=2)(a b c d:Value)(w:World):
 Calls prog 177 #[.agg #[K,.int .u8 j,a,b,c,d]] w λe w'=>e=.returned (.string ⟨#[0,0]⟩)/\Below w.heap.size w w':=by
 rcases h with rfl|rfl
 all_goals
  go_enter func177,ntmps177
  go_wp2_with fail
  go_ret
  exact⟨rfl,(Below.refl _ _).alloc (Nat.le_refl _) _⟩
def ZkR(K:Value)(j:Nat)(h:¬(j=1\/j=2))(a b c d:Value)(w:World):
 Calls prog 177 #[.agg #[K,.int .u8 j,a,b,c,d]] w λe w'=>e=.returned (.string ⟨#[0]⟩)/\Below w.heap.size w w':=by
 have u:((j:Int)==1)=false:=by rw[beq_eq_false_iff_ne];omega
 have q:((j:Int)==2)=false:=by rw[beq_eq_false_iff_ne];omega
 go_enter func177,ntmps177
 go_wp2_with fail
 go_ret
 exact⟨rfl,(Below.refl _ _).alloc (Nat.le_refl _) _⟩
def ptA(p:Pt):Array Value:=#[.string (B (ltN p.l)),.bool p.raw,.string (B p.text),.int .i64 (p.set:Nat)]
def Zl7{w:World}{p:Addr}{v:Value}(h:w.cell? p=some v):p.block<w.heap.size:=World.block_lt_of_cell? _ _ h
def InAt.ne_u8{w:World}{K:Nat}{s:InS}(h:InAt w K s){g j:Nat}{z:Int}(q:w.cell? ⟨g,j,none⟩=some (.int .u8 z)):g≠K:=by
 rintro rfl;rw[cell_of_row _ g j _ _ (0,0) h.row] at q;unfold five at q
 match j,q with
 |0,q=>simp at q
 |1,q=>simp at q
 |2,q=>simp at q
 |3,q=>simp at q
 |4,q=>simp at q
 |j+5,q=>simp at q
def Grd.but{w w':World}{K:Nat}{s:InS}(h:Grd w)(D:InAt w K s)(hb:But K w.heap.size w w'):Grd w':=by
 have y:∀g j z,w.cell? ⟨g,j,none⟩=some (.int .u8 z)->w'.cell? ⟨g,j,none⟩=some (.int .u8 z):=λg j z u=>by
  rw[hb.cell (Zl7 u) (D.ne_u8 u),u]
 refine⟨⟨λc u=>y _ _ _ (h.tabs.1 c u),λi q=>⟨y _ _ _ (h.tabs.2 i q).1,y _ _ _ (h.tabs.2 i q).2⟩⟩,λj I=>y _ _ _ (h.db j I),?_⟩;obtain⟨m,C⟩:=h.ml;refine⟨m,?_⟩;rw[hb.cell (Zl7 C) ?_,C];intro e;have J:3=K:=e;rw[J,D.get.1] at C;simp at C
structure PcSt (w wx:World)(K:Nat)(BX:Array Value)(nm:ByteArray)(raw:Bool)(s:InS):Prop where
 sc:Bx wx w.heap.size BX 191
 res:Bx wx (w.heap.size+1) #[.string ⟨#[]⟩,.bool false,.string ⟨#[]⟩,.int .i64 0] 182
 pt:Bx wx (w.heap.size+1+1) #[.string nm,.bool raw,.string ⟨#[]⟩,.int .i64 0] 182
 inn:InAt wx K s
 but:But K w.heap.size w wx
 lt:K<w.heap.size
section
variable {w wx wy:World} {K:Nat} {BX:Array Value} {nm:ByteArray} {raw:Bool} {s s':InS}
theorem PcSt.below(h:PcSt w wx K BX nm raw s)(hb:Below wx.heap.size wx wy):PcSt w wy K BX nm raw s:=
 ⟨h.sc.below hb,h.res.below hb,h.pt.below hb,h.inn.below hb,h.but.trans ((But.of hb).mono h.but.size),h.lt⟩
theorem PcSt.butK(h:PcSt w wx K BX nm raw s)(j:InAt wy K s')(hb:But K wx.heap.size wx wy):PcSt w wy K BX nm raw s':=
 ⟨h.sc.but hb (by have:=h.lt;omega),h.res.but hb (by have:=h.lt;omega),h.pt.but hb (by have:=h.lt;omega),j,h.but.trans (hb.mono h.but.size),h.lt⟩
theorem PcSt.drewN(h:PcSt w wx K BX nm raw s)(n:Nat):PcSt w (wx.drewN n) K BX nm raw s:=h.below (below_drewN (Below.refl _ _) n)
theorem PcSt.mk0(h:InAt w K s)(BX:Array Value)(nm:ByteArray)(raw:Bool):
 PcSt w (((w.alloc (.cells BX 191)).alloc (.cells #[.string ⟨#[]⟩,.bool false,.string ⟨#[]⟩,.int .i64 0] 182)).alloc (.cells #[.string nm,.bool raw,.string ⟨#[]⟩,.int .i64 0] 182)) K BX nm raw s:=by
 have b1:=((Bx.new w BX 191).alloc (.cells #[.string ⟨#[]⟩,.bool false,.string ⟨#[]⟩,.int .i64 0] 182)).alloc (.cells #[.string nm,.bool raw,.string ⟨#[]⟩,.int .i64 0] 182);have q:=(Bx.new (w.alloc (.cells BX 191)) #[.string ⟨#[]⟩,.bool false,.string ⟨#[]⟩,.int .i64 0] 182).alloc (.cells #[.string nm,.bool raw,.string ⟨#[]⟩,.int .i64 0] 182);have j:=Bx.new ((w.alloc (.cells BX 191)).alloc (.cells #[.string ⟨#[]⟩,.bool false,.string ⟨#[]⟩,.int .i64 0] 182)) #[.string nm,.bool raw,.string ⟨#[]⟩,.int .i64 0] 182;rw[World.size_alloc] at q;rw[World.size_alloc,World.size_alloc] at j;exact⟨b1,q,j,((h.alloc _).alloc _).alloc _,.of ((((Below.refl _ w).alloc (Nat.le_refl _) _).alloc (by simp) _).alloc (by simp;omega) _),h.lt⟩
end
def Zpr(s:InS)(k:Nat):(s.until k).1.length<=s.t.length:=by
 have I:∀l q,ZaU l=some q->q.1.length<=l.length:=by
  intro l;induction l with
  |nil=>intro q h;simp[ZaU] at h
  |cons x r D=>
   intro q h;rw[ZaU] at h;split at h
   ·injection h with h;subst h;simp
   ·cases j:ZaU r with
    |none=>rw[j] at h;cases h
    |some C=>rw[j] at h;injection h with h;subst h;have:=D C j;simp;omega
 have c2:∀n l q,l.length<=n->Z4 l=some q->q.1.length<=l.length:=by
  intro n;induction n with
  |zero=>intro l q u h;match l,u,h with|[],_,h=>simp[Z4] at h
  |succ n D=>
   intro l q u h
   match l,u,h with
   |[],_,h=>simp[Z4] at h
   |[x],_,h=>simp[Z4] at h
   |x::y::r,u,h=>
    rw[Z4] at h;split at h
    ·injection h with h;subst h;simp
    ·cases j:Z4 r with
     |none=>rw[j] at h;cases h
     |some C=>rw[j] at h;injection h with h;subst h;have:=D r C (by simp at u;omega) j;simp;omega
 unfold InS.until;split
 ·simp
 ·have u:(s.t.drop s.n).length<=s.t.length:=by simp
  split
  ·simp
  ·rename_i q j
   unfold Ze1 at j;split at j
   ·have:=I _ _ j;simp only;omega
   ·have:=c2 _ _ _ (Nat.le_refl _) j;simp only;omega
def ZwX(s:InS)(k:Nat):(s.take k).1.length<=s.t.length:=by
 unfold InS.take
 (repeat' split)<;>simp
 omega
def ZiB{w:World}{K:Nat}{s:InS}(h:InAt w K s):s.at_<=1000000000:=by
 have q:=h.room;have j:=h.fits;unfold InS.at_ InS.place Zhy;split<;>omega
def ZjL{w j:World}{K:Nat}{BX:Array Value}{nm:ByteArray}{raw:Bool}{s:InS}(h:PcSt w j K BX nm raw s)(T:ByteArray):
 Bx (((((j.setCell ⟨w.heap.size+1+1,2,none⟩ (.string T)).setCell ⟨w.heap.size+1,0,none⟩ (.string nm)).setCell ⟨w.heap.size+1,1,none⟩ (.bool raw)).setCell ⟨w.heap.size+1,2,none⟩ (.string T)).setCell ⟨w.heap.size+1,3,none⟩ (.int .i64 0)) (w.heap.size+1) #[.string nm,.bool raw,.string T,.int .i64 0] 182/\
 InAt (((((j.setCell ⟨w.heap.size+1+1,2,none⟩ (.string T)).setCell ⟨w.heap.size+1,0,none⟩ (.string nm)).setCell ⟨w.heap.size+1,1,none⟩ (.bool raw)).setCell ⟨w.heap.size+1,2,none⟩ (.string T)).setCell ⟨w.heap.size+1,3,none⟩ (.int .i64 0)) K s/\
 But K w.heap.size w (((((j.setCell ⟨w.heap.size+1+1,2,none⟩ (.string T)).setCell ⟨w.heap.size+1,0,none⟩ (.string nm)).setCell ⟨w.heap.size+1,1,none⟩ (.bool raw)).setCell ⟨w.heap.size+1,2,none⟩ (.string T)).setCell ⟨w.heap.size+1,3,none⟩ (.int .i64 0)):=by
 have q:=h.lt;refine⟨((((h.res.set (k:=w.heap.size+1+1) (by omega) 2 _).put 0 _).put 1 _).put 2 _).put 3 _,((((h.inn.set (by omega) 2 _).set (by omega) 0 _).set (by omega) 1 _).set (by omega) 2 _).set (by omega) 3 _,?_⟩;exact((((h.but.setCell (.inl (by show w.heap.size<=w.heap.size+1+1;omega)) _).setCell (.inl (Nat.le_succ _)) _).setCell (.inl (Nat.le_succ _)) _).setCell (.inl (Nat.le_succ _)) _).setCell (.inl (Nat.le_succ _)) _
def ZjM{w j:World}{K:Nat}{BX:Array Value}{nm:ByteArray}{raw:Bool}{s:InS}(h:PcSt w j K BX nm raw s)(T:ByteArray)(z:Int):
 Bx ((((((j.setCell ⟨w.heap.size+1+1,2,none⟩ (.string T)).setCell ⟨w.heap.size+1+1,3,none⟩ (.int .i64 z)).setCell ⟨w.heap.size+1,0,none⟩ (.string nm)).setCell ⟨w.heap.size+1,1,none⟩ (.bool raw)).setCell ⟨w.heap.size+1,2,none⟩ (.string T)).setCell ⟨w.heap.size+1,3,none⟩ (.int .i64 z)) (w.heap.size+1) #[.string nm,.bool raw,.string T,.int .i64 z] 182/\
 InAt ((((((j.setCell ⟨w.heap.size+1+1,2,none⟩ (.string T)).setCell ⟨w.heap.size+1+1,3,none⟩ (.int .i64 z)).setCell ⟨w.heap.size+1,0,none⟩ (.string nm)).setCell ⟨w.heap.size+1,1,none⟩ (.bool raw)).setCell ⟨w.heap.size+1,2,none⟩ (.string T)).setCell ⟨w.heap.size+1,3,none⟩ (.int .i64 z)) K s/\
 But K w.heap.size w ((((((j.setCell ⟨w.heap.size+1+1,2,none⟩ (.string T)).setCell ⟨w.heap.size+1+1,3,none⟩ (.int .i64 z)).setCell ⟨w.heap.size+1,0,none⟩ (.string nm)).setCell ⟨w.heap.size+1,1,none⟩ (.bool raw)).setCell ⟨w.heap.size+1,2,none⟩ (.string T)).setCell ⟨w.heap.size+1,3,none⟩ (.int .i64 z)):=by
 have q:=h.lt;refine⟨(((((h.res.set (k:=w.heap.size+1+1) (by omega) 2 _).set (k:=w.heap.size+1+1) (by omega) 3 _).put 0 _).put 1 _).put 2 _).put 3 _,(((((h.inn.set (by omega) 2 _).set (by omega) 3 _).set (by omega) 0 _).set (by omega) 1 _).set (by omega) 2 _).set (by omega) 3 _,?_⟩;exact(((((h.but.setCell (.inl (by show w.heap.size<=w.heap.size+1+1;omega)) _).setCell (.inl (by show w.heap.size<=w.heap.size+1+1;omega)) _).setCell (.inl (Nat.le_succ _)) _).setCell (.inl (Nat.le_succ _)) _).setCell (.inl (Nat.le_succ _)) _).setCell (.inl (Nat.le_succ _)) _
def Zbk(K:Nat)(p:Pt×InS)(w:World)(e:Ending)(w':World):Prop:=Zh K w (.agg (ptA p.1)) p.2 e w'
def Zio(l:Lt)(U:l=.lang\/l=.fmt\/l=.kind)(K:Nat)(s:InS)(D:Nat)(N C:Int)(fb:Nat)(det:Bool)(L:List UInt8->Except (Nat×Nat) (List UInt8×Nat))(w:World)(h:InAt w K s):
 Calls prog 134 #[.agg (Zab K D N C fb det),.int .u8 (ltB l).toNat] w (Zbk K (Z2 D L s l) w):=by
 have I:=λw=>ZeT l w;have J:=λw h=>Zcs K s w h;obtain⟨n,hn,q,O⟩:∃n:Nat,n<=3/\(if l=.kind then n=1 else n=3)/\Z2 D L s l=(⟨l,true,(s.take n).1,0⟩,(s.take n).2):=by
  rcases U with rfl|rfl|rfl
  ·exact⟨3,by decide,rfl,rfl⟩
  ·exact⟨3,by decide,rfl,rfl⟩
  ·exact⟨1,by decide,rfl,rfl⟩
 have u:=λw h=>Zdo K s n (by omega) (by omega) w h;rw[Int.toNat_natCast] at u;unfold Zh at u;rw[O];unfold Zbk ptA;simp only;generalize hT:B (s.take n).1=T at*;generalize (s.take n).2=s2 at*;generalize hN:B (ltN l)=nm at*;have ST:=QQ (PcSt.mk0 h (Zab K D N C fb det) nm true);unfold Zab at*;clear O hT;have a1:=ST.sc.cell 0;rcases U with rfl|rfl|rfl
 all_goals
  first|(simp only[reduceCtorEq,if_false] at q;subst q)|(simp only[if_true] at q;subst q)
  unfold ltB at*;go_enter func134,ntmps134
  go_wp2_with (first
   |(go_at_call 132;refine(I _).mono ?_;rintro e Z ⟨rfl,rfl⟩)
   |(go_at_call 57;refine(J _ ST.inn).mono ?_;rintro e Z ⟨rfl,rfl⟩)
   |(go_at_call 19;refine(u _ ST.inn).mono ?_;rintro e w2 ⟨rfl,V,y⟩;have j:=QQ (ST.butK V y);clear V y;have p0:=j.pt.cell 0;have p1:=j.pt.cell 1;have p2:=j.pt.cell 2;have p3:=j.pt.cell 3;have q0:=j.res.cell 0;have q1:=j.res.cell 1;have q2:=j.res.cell 2;have q3:=j.res.cell 3;have g2:=j.pt.free 2;have g3:=j.pt.free 3;have r0:=j.res.free 0;have r1:=j.res.free 1;have r2:=j.res.free 2;have r3:=j.res.free 3))
  obtain⟨Y,X,W⟩:=ZjL j.out T;exact bodyPost_ret (results_cell_row rfl _ _ (w.heap.size+1) _ _ _ _ rfl Y underlying182 rfl (by kernel_rfl)) rfl ⟨rfl,X,W⟩
def Zrn(K:Nat)(s:InS)(C:Nat)(N y:Int)(fb:Nat)(det:Bool)(L:List UInt8->Except (Nat×Nat) (List UInt8×Nat))(w:World)(h:InAt w K s):
 Calls prog 134 #[.agg (Zab K C N y fb det),.int .u8 (ltB .mime).toNat] w (Zbk K (Z2 C L s .mime) w):=by
 have I:=λw=>ZeT .mime w;have J:=λw h=>Zcs K s w h;have q:=λw h=>ZlD K s w h;unfold Zh at q;obtain⟨x,D,O,U⟩:∃x D,s.until 1=(x,D)/\Z2 C L s .mime=(⟨.mime,true,x,0⟩,D):=⟨_,_,rfl,rfl⟩
 rw[U];rw[O] at q;unfold Zbk ptA;simp only at q⊢;generalize hT:B x=T at*;generalize hN:B (ltN .mime)=nm at*;have ST:=QQ (PcSt.mk0 h (Zab K C N y fb det) nm true);unfold Zab at*;clear U hT O;have a1:=ST.sc.cell 0;unfold ltB at*;go_enter func134,ntmps134
 go_wp2_with (first
  |(go_at_call 132;refine(I _).mono ?_;rintro e Z ⟨rfl,rfl⟩)
  |(go_at_call 57;refine(J _ ST.inn).mono ?_;rintro e Z ⟨rfl,rfl⟩)
  |(go_at_call 215;refine(q _ ST.inn).mono ?_;rintro e w2 ⟨rfl,V,u⟩;have j:=QQ (ST.butK V u);clear V u;have p0:=j.pt.cell 0;have p1:=j.pt.cell 1;have p2:=j.pt.cell 2;have p3:=j.pt.cell 3;have q0:=j.res.cell 0;have q1:=j.res.cell 1;have q2:=j.res.cell 2;have q3:=j.res.cell 3;have g2:=j.pt.free 2;have g3:=j.pt.free 3;have r0:=j.res.free 0;have r1:=j.res.free 1;have r2:=j.res.free 2;have r3:=j.res.free 3))
 obtain⟨Y,X,W⟩:=ZjL j.out T;exact bodyPost_ret (results_cell_row rfl _ _ (w.heap.size+1) _ _ _ _ rfl Y underlying182 rfl (by kernel_rfl)) rfl ⟨rfl,X,W⟩
def Zrk(K:Nat)(s:InS)(C:Nat)(N y:Int)(fb:Nat)(det:Bool)(L:List UInt8->Except (Nat×Nat) (List UInt8×Nat))(w:World)(h:InAt w K s):
 Calls prog 134 #[.agg (Zab K C N y fb det),.int .u8 (ltB .data).toNat] w (Zbk K (Z2 C L s .data) w):=by
 have I:=λw=>ZeT .data w;have J:=λw h=>Zcs K s w h;have q:=λw h=>ZeU K s w h;unfold Zh at q;obtain⟨x,D,O,U⟩:∃x D,s.rest=(x,D)/\Z2 C L s .data=(⟨.data,true,x,0⟩,D):=⟨_,_,rfl,rfl⟩
 rw[U];rw[O] at q;unfold Zbk ptA;simp only at q⊢;generalize hT:B x=T at*;generalize hN:B (ltN .data)=nm at*;have ST:=QQ (PcSt.mk0 h (Zab K C N y fb det) nm true);unfold Zab at*;clear U hT O;have a1:=ST.sc.cell 0;unfold ltB at*;go_enter func134,ntmps134
 go_wp2_with (first
  |(go_at_call 132;refine(I _).mono ?_;rintro e Z ⟨rfl,rfl⟩)
  |(go_at_call 57;refine(J _ ST.inn).mono ?_;rintro e Z ⟨rfl,rfl⟩)
  |(go_at_call 29;refine(q _ ST.inn).mono ?_;rintro e w2 ⟨rfl,V,u⟩;have j:=QQ (ST.butK V u);clear V u;have p0:=j.pt.cell 0;have p1:=j.pt.cell 1;have p2:=j.pt.cell 2;have p3:=j.pt.cell 3;have q0:=j.res.cell 0;have q1:=j.res.cell 1;have q2:=j.res.cell 2;have q3:=j.res.cell 3;have g2:=j.pt.free 2;have g3:=j.pt.free 3;have r0:=j.res.free 0;have r1:=j.res.free 1;have r2:=j.res.free 2;have r3:=j.res.free 3))
 obtain⟨Y,X,W⟩:=ZjL j.out T;exact bodyPost_ret (results_cell_row rfl _ _ (w.heap.size+1) _ _ _ _ rfl Y underlying182 rfl (by kernel_rfl)) rfl ⟨rfl,X,W⟩
def ZeW(K q:Nat)(u j:Int)(fb:Nat)(det:Bool):Prop:=∀(s:InS) (l:List UInt8),l.length<=100000->∀k:Nat,k<=1000000000->∀w:World,Grd w->InAt w K s->
 Calls prog 216 #[.agg #[.pointer (some ⟨K,0,none⟩),.int .u8 q,.int .i64 u,.int .i64 fb,.bool det,.int .i64 j],.string (B l),.int .i64 k] w (Zbc K s k (wdF fb det q l) w)
def Zxv(K:Nat){y:Nat}(u:y<=255)(C j:Int){fb:Nat}(q:fb<=9)(det:Bool):ZeW K y C j fb det:=λs l D k I w hG h=>ZsB K s y u C j fb det l D k I w hG h q
def Ziw(lt:Lt)(K:Nat)(s:InS)(j:Nat)(y q:Int)(fb:Nat)(det:Bool)(J:ZeW K j y q fb det)(l:List UInt8)(D:l.length<=100000)(k:Nat)(I:k<=1000000000)(w:World)(hG:Grd w)(h:InAt w K s):
 Calls prog 216 #[.agg (Zab K j y q fb det),.string (B l),.int .i64 k] w (Zh K w (.tuple #[.string (B (ZaN (wdF fb det j) lt (l,s) k).1.text),.int .i64 ((ZaN (wdF fb det j) lt (l,s) k).1.set:Nat)]) (ZaN (wdF fb det j) lt (l,s) k).2):=by
 have u:=J s l D k I w hG h;unfold ZaN;simp only;cases C:wdF fb det j l with
 |ok t=>rw[C] at u;exact u
 |error x=>rw[C] at u;exact u
def Zks(j:List UInt8->Except (Nat×Nat) (List UInt8×Nat))(lt:Lt)(b:List UInt8×InS)(k:Nat):(ZaN j lt b k).1.l=lt/\(ZaN j lt b k).1.raw=false:=by
 unfold ZaN;split<;>exact⟨rfl,rfl⟩
def Bx.six{w:World}{g:Nat}{a b c d e f:Value}{T:TypeId}(h:Bx w g #[a,b,c,d,e,f] T):w.cell? ⟨g,0,none⟩=some a/\w.cell? ⟨g,1,none⟩=some b/\w.cell? ⟨g,2,none⟩=some c/\w.cell? ⟨g,3,none⟩=some d/\w.cell? ⟨g,4,none⟩=some e/\w.cell? ⟨g,5,none⟩=some f:=
 ⟨h.cell 0,h.cell 1,h.cell 2,h.cell 3,h.cell 4,h.cell 5⟩
def Zro(K:Nat)(s:InS)(u:Nat)(J q:Int)(fb:Nat)(det:Bool)(hW:ZeW K u J q fb det)(D:s.t.length<=100000)(w:World)(hG:Grd w)(h:InAt w K s):
 Calls prog 134 #[.agg (Zab K u J q fb det),.int .u8 (ltB .text).toNat] w (Zbk K (Z2 u (wdF fb det u) s .text) w):=by
 have ab:=λw=>ZeT .text w;have ad:=λw h=>Zcs K s w h;have V:=ZiB h;have C:=λw h=>ZeU K s w h;have I:s.rest.1.length<=100000:=Nat.le_trans (ZwX s _) D;unfold Zh at C;obtain⟨x,N,Z⟩:∃x N,s.rest=(x,N):=⟨_,_,rfl⟩
 rw[Z] at C I;have y:=λw hG h=>Ziw .text K N u J q fb det hW x I s.at_ V w hG h;unfold Zh at y;have hp:Z2 u (wdF fb det u) s .text=ZaN (wdF fb det u) .text (x,N) s.at_:=by rw[<-Z];rfl
 rw[hp];obtain⟨pt,s3,hq,aa⟩:∃pt s3,ZaN (wdF fb det u) .text (x,N) s.at_=(pt,s3)/\pt.l=.text/\pt.raw=false:=⟨_,_,rfl,Zks _ _ _ _⟩
 rw[hq] at y⊢;obtain⟨pl,af,Y,O⟩:=pt;obtain⟨rfl,rfl⟩:=aa;unfold Zbk ptA;simp only at C y⊢;generalize hT:B Y=T at*;generalize hX:B x=X at*;generalize hN:B (ltN .text)=nm at*;have ST:=QQ (PcSt.mk0 h (Zab K u J q fb det) nm true);have L:=QQ (PcSt.mk0 h (Zab K u J q fb det) nm false);have G0:=QQ hG;unfold Zab at*;clear hp hT hX Z hq V I D;have a1:=ST.sc.cell 0;have p1:=ST.pt.cell 1;have g1:=ST.pt.free 1;unfold ltB at*;go_enter func134,ntmps134
 go_wp2_with (first
  |(go_at_call 132;refine(ab _).mono ?_;rintro e w1 ⟨rfl,rfl⟩)
  |(go_at_call 57;refine(ad _ ST.inn).mono ?_;rintro e w1 ⟨rfl,rfl⟩))
 go_region_held3 (λw'=>w'.cell? ⟨w.heap.size,0,none⟩=some (.pointer (some ⟨K,0,none⟩))/\w'.cell? ⟨w.heap.size,1,none⟩=some (.int .u8 (u:Int))/\w'.cell? ⟨w.heap.size,2,none⟩=some (.int .i64 J)/\w'.cell? ⟨w.heap.size,3,none⟩=some (.int .i64 (fb:Int))/\w'.cell? ⟨w.heap.size,4,none⟩=some (.bool det)/\w'.cell? ⟨w.heap.size,5,none⟩=some (.int .i64 q))
  (first|exact L.sc.six|with_reducible exact(L.out.drewN 1).sc.six|with_reducible exact W.out.sc.six|with_reducible exact j.out.sc.six|with_reducible exact(j.out.sc.set (k:=w.heap.size+1+1) (by omega) 2 _).six|with_reducible exact((j.out.sc.set (k:=w.heap.size+1+1) (by omega) 2 _).set (k:=w.heap.size+1+1) (by omega) 3 _).six|with_reducible exact(j.out.sc.set (k:=w.heap.size+1+1) (by omega) 3 _).six)
  (first
   |(go_at_call 29;refine(C _ (by first|exact L.inn|exact(L.drewN 1).inn)).mono ?_;rintro e w2 ⟨rfl,h2,U⟩;have W:=QQ (by first|exact L.butK h2 U|exact(L.drewN 1).butK h2 U))
   |(go_at_call 216;refine(y _ (G0.but h W.but) W.inn).mono ?_;rintro e w3 ⟨rfl,h3,ac⟩;have j:=QQ (W.butK h3 ac);have p0:=j.pt.cell 0;have p1:=j.pt.cell 1;have p2:=j.pt.cell 2;have p3:=j.pt.cell 3;have q0:=j.res.cell 0;have q1:=j.res.cell 1;have q2:=j.res.cell 2;have q3:=j.res.cell 3;have g2:=j.pt.free 2;have g3:=j.pt.free 3;have r0:=j.res.free 0;have r1:=j.res.free 1;have r2:=j.res.free 2;have r3:=j.res.free 3))
 go_wp2_with fail
 obtain⟨z1,z2,z3⟩:=ZjM j.out T O;exact bodyPost_ret (results_cell_row rfl _ _ (w.heap.size+1) _ _ _ _ rfl z1 underlying182 rfl (by kernel_rfl)) rfl ⟨rfl,z2,z3⟩
def Zrm(K:Nat)(s:InS)(q:Nat)(aw:q<=255)(I u:Int)(fb:Nat)(det:Bool)(he:q=1\/q=2)(hW:ZeW K q I u fb det)(D:s.t.length<=100000)(w:World)(hG:Grd w)(h:InAt w K s):
 Calls prog 134 #[.agg (Zab K q I u fb det),.int .u8 (ltB .desc).toNat] w (Zbk K (Z2 q (wdF fb det q) s .desc) w):=by
 have ac:=λw=>ZeT .desc w;have af:=λw h=>Zcs K s w h;have V:=ZiB h;have C:=λw h=>Until2 K s w h;have J:(s.until 2).1.length<=100000:=Nat.le_trans (Zpr s _) D;unfold Zh at C;obtain⟨x,L,hx⟩:∃x L,s.until 2=(x,L):=⟨_,_,rfl⟩
 rw[hx] at C J;have y:=λw hG h=>Ziw .desc K L q I u fb det hW x J s.at_ V w hG h;unfold Zh at y;have hp:Z2 q (wdF fb det q) s .desc=ZaN (wdF fb det q) .desc (x,L) s.at_:=by rw[<-hx];unfold Z2 Zcd;simp only[he,if_true,if_false]
 rw[hp];obtain⟨pt,s3,hq,ab⟩:∃pt s3,ZaN (wdF fb det q) .desc (x,L) s.at_=(pt,s3)/\pt.l=.desc/\pt.raw=false:=⟨_,_,rfl,Zks _ _ _ _⟩
 rw[hq] at y⊢;obtain⟨pl,ak,Z,N⟩:=pt;obtain⟨rfl,rfl⟩:=ab;have O:=λw=>ZkS (.pointer (some ⟨K,0,none⟩)) q he (.int .i64 I) (.int .i64 fb) (.bool det) (.int .i64 u) w;unfold Zbk ptA;simp only at C y⊢;generalize hT:B Z=T at*;generalize hX:B x=X at*;generalize hN:B (ltN .desc)=nm at*;have ST:=QQ (PcSt.mk0 h (Zab K q I u fb det) nm true);have W:=QQ (PcSt.mk0 h (Zab K q I u fb det) nm false);have G0:=QQ hG;unfold Zab at*;clear hp hT hX hx hq V J D he;have a1:=ST.sc.cell 0;have p1:=ST.pt.cell 1;have g1:=ST.pt.free 1;unfold ltB at*;go_enter func134,ntmps134
 go_wp2_with (first
  |(go_at_call 132;refine(ac _).mono ?_;rintro e w1 ⟨rfl,rfl⟩)
  |(go_at_call 57;refine(af _ ST.inn).mono ?_;rintro e w1 ⟨rfl,rfl⟩))
 go_region_held3 (λw'=>w'.cell? ⟨w.heap.size,0,none⟩=some (.pointer (some ⟨K,0,none⟩))/\w'.cell? ⟨w.heap.size,1,none⟩=some (.int .u8 (q:Int))/\w'.cell? ⟨w.heap.size,2,none⟩=some (.int .i64 I)/\w'.cell? ⟨w.heap.size,3,none⟩=some (.int .i64 (fb:Int))/\w'.cell? ⟨w.heap.size,4,none⟩=some (.bool det)/\w'.cell? ⟨w.heap.size,5,none⟩=some (.int .i64 u))
  (first|exact W.sc.six|with_reducible exact(W.out.drewN 1).sc.six|with_reducible exact S1.out.sc.six|with_reducible exact Y.out.sc.six|with_reducible exact j.out.sc.six|with_reducible exact(j.out.sc.set (k:=w.heap.size+1+1) (by omega) 2 _).six|with_reducible exact((j.out.sc.set (k:=w.heap.size+1+1) (by omega) 2 _).set (k:=w.heap.size+1+1) (by omega) 3 _).six|with_reducible exact(j.out.sc.set (k:=w.heap.size+1+1) (by omega) 3 _).six)
  (first
   |(go_at_call 177;refine MR (O _) λw1 U=>?_;have S1:=QQ (by first|exact W.below U|exact(W.drewN 1).below U))
   |(go_at_call 215;refine(C _ S1.inn).mono ?_;rintro e w2 ⟨rfl,h2,ae⟩;have Y:=QQ (S1.butK h2 ae))
   |(go_at_call 216;refine(y _ (G0.but h Y.but) Y.inn).mono ?_;rintro e w3 ⟨rfl,h3,ad⟩;have j:=QQ (Y.butK h3 ad);have p0:=j.pt.cell 0;have p1:=j.pt.cell 1;have p2:=j.pt.cell 2;have p3:=j.pt.cell 3;have q0:=j.res.cell 0;have q1:=j.res.cell 1;have q2:=j.res.cell 2;have q3:=j.res.cell 3;have g2:=j.pt.free 2;have g3:=j.pt.free 3;have r0:=j.res.free 0;have r1:=j.res.free 1;have r2:=j.res.free 2;have r3:=j.res.free 3))
 go_wp2_with fail
 obtain⟨z1,z2,z3⟩:=ZjM j.out T N;exact bodyPost_ret (results_cell_row rfl _ _ (w.heap.size+1) _ _ _ _ rfl z1 underlying182 rfl (by kernel_rfl)) rfl ⟨rfl,z2,z3⟩
def Zrl(K:Nat)(s:InS)(q:Nat)(aw:q<=255)(I u:Int)(fb:Nat)(det:Bool)(he:¬(q=1\/q=2))(hW:ZeW K q I u fb det)(D:s.t.length<=100000)(w:World)(hG:Grd w)(h:InAt w K s):
 Calls prog 134 #[.agg (Zab K q I u fb det),.int .u8 (ltB .desc).toNat] w (Zbk K (Z2 q (wdF fb det q) s .desc) w):=by
 have ac:=λw=>ZeT .desc w;have af:=λw h=>Zcs K s w h;have V:=ZiB h;have C:=λw h=>ZlD K s w h;have J:(s.until 1).1.length<=100000:=Nat.le_trans (Zpr s _) D;unfold Zh at C;obtain⟨x,L,hx⟩:∃x L,s.until 1=(x,L):=⟨_,_,rfl⟩
 rw[hx] at C J;have y:=λw hG h=>Ziw .desc K L q I u fb det hW x J s.at_ V w hG h;unfold Zh at y;have hp:Z2 q (wdF fb det q) s .desc=ZaN (wdF fb det q) .desc (x,L) s.at_:=by rw[<-hx];unfold Z2 Zcd;simp only[he,if_true,if_false]
 rw[hp];obtain⟨pt,s3,hq,ab⟩:∃pt s3,ZaN (wdF fb det q) .desc (x,L) s.at_=(pt,s3)/\pt.l=.desc/\pt.raw=false:=⟨_,_,rfl,Zks _ _ _ _⟩
 rw[hq] at y⊢;obtain⟨pl,ak,Z,N⟩:=pt;obtain⟨rfl,rfl⟩:=ab;have O:=λw=>ZkR (.pointer (some ⟨K,0,none⟩)) q he (.int .i64 I) (.int .i64 fb) (.bool det) (.int .i64 u) w;unfold Zbk ptA;simp only at C y⊢;generalize hT:B Z=T at*;generalize hX:B x=X at*;generalize hN:B (ltN .desc)=nm at*;have ST:=QQ (PcSt.mk0 h (Zab K q I u fb det) nm true);have W:=QQ (PcSt.mk0 h (Zab K q I u fb det) nm false);have G0:=QQ hG;unfold Zab at*;clear hp hT hX hx hq V J D he;have a1:=ST.sc.cell 0;have p1:=ST.pt.cell 1;have g1:=ST.pt.free 1;unfold ltB at*;go_enter func134,ntmps134
 go_wp2_with (first
  |(go_at_call 132;refine(ac _).mono ?_;rintro e w1 ⟨rfl,rfl⟩)
  |(go_at_call 57;refine(af _ ST.inn).mono ?_;rintro e w1 ⟨rfl,rfl⟩))
 go_region_held3 (λw'=>w'.cell? ⟨w.heap.size,0,none⟩=some (.pointer (some ⟨K,0,none⟩))/\w'.cell? ⟨w.heap.size,1,none⟩=some (.int .u8 (q:Int))/\w'.cell? ⟨w.heap.size,2,none⟩=some (.int .i64 I)/\w'.cell? ⟨w.heap.size,3,none⟩=some (.int .i64 (fb:Int))/\w'.cell? ⟨w.heap.size,4,none⟩=some (.bool det)/\w'.cell? ⟨w.heap.size,5,none⟩=some (.int .i64 u))
  (first|exact W.sc.six|with_reducible exact(W.out.drewN 1).sc.six|with_reducible exact S1.out.sc.six|with_reducible exact Y.out.sc.six|with_reducible exact j.out.sc.six|with_reducible exact(j.out.sc.set (k:=w.heap.size+1+1) (by omega) 2 _).six|with_reducible exact((j.out.sc.set (k:=w.heap.size+1+1) (by omega) 2 _).set (k:=w.heap.size+1+1) (by omega) 3 _).six|with_reducible exact(j.out.sc.set (k:=w.heap.size+1+1) (by omega) 3 _).six)
  (first
   |(go_at_call 177;refine MR (O _) λw1 U=>?_;have S1:=QQ (by first|exact W.below U|exact(W.drewN 1).below U))
   |(go_at_call 215;refine(C _ S1.inn).mono ?_;rintro e w2 ⟨rfl,h2,ae⟩;have Y:=QQ (S1.butK h2 ae))
   |(go_at_call 216;refine(y _ (G0.but h Y.but) Y.inn).mono ?_;rintro e w3 ⟨rfl,h3,ad⟩;have j:=QQ (Y.butK h3 ad);have p0:=j.pt.cell 0;have p1:=j.pt.cell 1;have p2:=j.pt.cell 2;have p3:=j.pt.cell 3;have q0:=j.res.cell 0;have q1:=j.res.cell 1;have q2:=j.res.cell 2;have q3:=j.res.cell 3;have g2:=j.pt.free 2;have g3:=j.pt.free 3;have r0:=j.res.free 0;have r1:=j.res.free 1;have r2:=j.res.free 2;have r3:=j.res.free 3))
 go_wp2_with fail
 obtain⟨z1,z2,z3⟩:=ZjM j.out T N;exact bodyPost_ret (results_cell_row rfl _ _ (w.heap.size+1) _ _ _ _ rfl z1 underlying182 rfl (by kernel_rfl)) rfl ⟨rfl,z2,z3⟩
def Zrp(l:Lt)(K:Nat)(s:InS)(q:Nat)(C:q<=255)(y j:Int)(fb:Nat)(det:Bool)(D:ZeW K q y j fb det)(u:s.t.length<=100000)(w:World)(hG:Grd w)(h:InAt w K s):
 Calls prog 134 #[.agg (Zab K q y j fb det),.int .u8 (ltB l).toNat] w (Zbk K (Z2 q (wdF fb det q) s l) w):=by
 cases l with
 |lang=>exact Zio .lang (.inl rfl) K s q y j fb det _ w h
 |fmt=>exact Zio .fmt (.inr (.inl rfl)) K s q y j fb det _ w h
 |mime=>exact Zrn K s q y j fb det _ w h
 |kind=>exact Zio .kind (.inr (.inr rfl)) K s q y j fb det _ w h
 |desc=>
  by_cases he:q=1\/q=2
  ·exact Zrm K s q C y j fb det he D u w hG h
  ·exact Zrl K s q C y j fb det he D u w hG h
 |text=>exact Zro K s q y j fb det D u w hG h
 |data=>exact Zrk K s q y j fb det _ w h
def Zrj(l:Lt)(K:Nat)(s:InS)(y:Nat)(u:y<=255)(C j:Int)(fb:Nat)(det:Bool)(D:fb<=9)(q:s.t.length<=100000)(w:World)(hG:Grd w)(h:InAt w K s):
 Calls prog 134 #[.agg (Zab K y C j fb det),.int .u8 (ltB l).toNat] w (Zbk K (Z2 y (wdF fb det y) s l) w):=
 Zrp l K s y u C j fb det (Zxv K u C j D det) q w hG h
