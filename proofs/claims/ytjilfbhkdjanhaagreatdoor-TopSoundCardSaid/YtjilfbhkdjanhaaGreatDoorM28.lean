/- Lemmas for a statement on the tops; conditions: as each says. -/
import Derived.Lib.AppendStr
import Derived.Test.YtjilfbhkdjanhaaGreatDoorM12
import Derived.Test.YtjilfbhkdjanhaaGreatDoorM21
import Derived.Test.YtjilfbhkdjanhaaGreatDoorM26
import Derived.Test.YtjilfbhkdjanhaaGreatDoorM27
set_option linter.all false
set_option maxRecDepth 100000
set_option maxHeartbeats 4000000
open Go.Proofs.Tryz
namespace Go.Proofs.YtjilfbhkdjanhaaGreatDoor
open Go Go.RowKit Go.Maps
structure Grd (w:World):Prop where
 tabs:Zo w
 db:DB w
 ml:ML w
def Grd.below{w w':World}(h:Grd w)(hb:Below w.heap.size w w'):Grd w':=⟨ZaQ h.tabs hb NL,ZeQ h.db hb NL,ZqQ h.ml hb NL⟩
def Grd.alloc{w:World}(h:Grd w)(o:Obj):Grd (w.alloc o):=h.below ((Below.refl _ _).alloc NL _)
def Zpl(p:Int):Zd [p]=Lib.encodeRune p:=by simp[Zd]
def ZpP(a b:UInt8)(w:World):
 Calls prog 283 #[.int .u8 a.toNat,.int .u8 b.toNat] w λe w'=>∃z,e=.returned (.tuple #[.string (B (Zd (ZcT a.toNat b.toNat))),.bool z])/\Below w.heap.size w w':=by
 have j:=a.toNat_lt;have hb:=b.toNat_lt;refine MR (ZrS a.toNat b.toNat (by omega) (by omega) w) λw' h=>?_;exact⟨_,rfl,h⟩
def ZpU(c:Nat)(U:4<=c/\c<=6)(a b:UInt8)(w:World)(I:DB w):
 Calls prog 230 #[.int .i64 c,.int .u8 a.toNat,.int .u8 b.toNat] w λe w'=>e=.returned (.string (B (Zd (sg2 c a b))))/\Below w.heap.size w w':=by
 have V:=a.toNat_lt;have hb:=b.toNat_lt;by_cases O:c=4
 ·subst O;have hs:sg2 4 a b=if Zea a b≠0/\Zm (Zea a b)=true then [Zea a b] else []:=by unfold sg2;rw[if_pos rfl]
  have q:=λw I=>ZrP (Zxt a b) (by omega) (by omega) w I;rw[hs];generalize Zea a b=p at*;clear hs;by_cases h0:p=0
  ·subst h0;go_enter func230,ntmps230
   go_wp2_with (go_at_call 281;refine MR (q _ I) λC j=>?_)
   go_ret
   exact⟨rfl,j⟩
  ·have W:(p !=0)=true:=by simpa using h0
   have J:decide (p≠0)=true:=by simpa using h0
   by_cases u:Zm p=true
   ·have D:=λc w=>Ziu p u c w;rw[if_pos ⟨h0,u⟩,Zpl];go_enter func230,ntmps230
    go_wp2_with (first|(go_at_call 281;refine MR (q _ I) λC j=>?_)|(go_at_call 248;refine MR (D _ _) λL y=>?_))
    go_ret
    exact⟨rfl,j.trans ((Ze y).mono j.size)⟩
   ·have D:=λc w=>Zsh p (by simpa using u) c w;rw[if_neg (λh=>u h.2)];go_enter func230,ntmps230
    go_wp2_with (first|(go_at_call 281;refine MR (q _ I) λC j=>?_)|(go_at_call 248;refine(D _ _).mono ?_;rintro e L ⟨rfl,rfl⟩))
    go_ret
    exact⟨rfl,j.alloc (by have:=j.size;omega) _⟩
 ·by_cases N:c=5
  ·subst N;have hs:sg2 5 a b=if ZaX ((a.toNat*256+b.toNat:Nat):Int)=0 then [] else [ZaX ((a.toNat*256+b.toNat:Nat):Int)]:=by unfold sg2;rw[if_neg (by decide),if_pos rfl]
   have q:=λw=>ZqJ a b w;have u:=Znm ((a.toNat*256+b.toNat:Nat):Int);rw[hs];generalize ZaX ((a.toNat*256+b.toNat:Nat):Int)=p at*;clear hs;by_cases h0:p=0
   ·subst h0;go_enter func230,ntmps230
    go_wp2_with (go_at_call 282;refine MR (q _) λC j=>?_)
    go_ret
    exact⟨rfl,j⟩
   ·have J:decide (p≠0)=true:=by simpa using h0
    rw[J] at q;have D:=λc w=>Ziu p (u h0) c w;rw[if_neg h0,Zpl];clear u J;go_enter func230,ntmps230
    go_wp2_with (first|(go_at_call 282;refine MR (q _) λC j=>?_)|(go_at_call 248;refine MR (D _ _) λL y=>?_))
    go_ret
    exact⟨rfl,j.trans ((Ze y).mono j.size)⟩
  ·obtain rfl:c=6:=by omega
   have hs:sg2 6 a b=ZcT a.toNat b.toNat:=by unfold sg2;rw[if_neg (by decide),if_neg (by decide)]
   have q:=λw=>ZpP a b w;rw[hs];clear hs;go_enter func230,ntmps230
   go_wp2_with (go_at_call 283;refine(q _).mono ?_;rintro e C ⟨z,rfl,j⟩)
   go_ret
   exact⟨rfl,j⟩
def ZwM(l:List UInt8):Lib.strCells (B l)=l.map u8V:=by
 simp[Lib.strCells,B,u8V]
def MpT.same{w w':World}{b n:Nat}{M:UInt8->UInt8->Option (List UInt8)}(h:MpT w b n M)(e:w'.heap[b]?=w.heap[b]?):MpT w' b n M:=by
 obtain⟨D,⟨y,cl,u,q⟩,j⟩:=h;exact⟨D,⟨y,cl,e.trans u,q⟩,j⟩
section
variable {ops:Array Oper} {rest:List Oper} {o:Oper} {a:Act} {Q:Exit->Act->World->Prop}
theorem mt_no{w:World}{b n:Nat}{M:UInt8->UInt8->Option (List UInt8)}(D:o.guard=none)(m x:Operand)(j:o.op=Op.lookup 273 m x true)(h:MpT w b n M)(y:a.eval m=.map (some b))(p q:UInt8)(u:a.eval x=.agg #[.int .u8 p.toNat,.int .u8 q.toNat])(C:M p q=none)
 (hK:∀t:List UInt8,wpList prog ops Q rest (a.put o.dst (.tuple #[.agg #[.string (B t)],.bool false])) w):
 wpList prog ops Q (o::rest) a w:=
 ZnC D m x j h y p q u λt _=>by rw[C];exact hK t
theorem ZnE{w:World}{b n:Nat}{M:UInt8->UInt8->Option (List UInt8)}(D:o.guard=none)(m x:Operand)(j:o.op=Op.lookup 273 m x true)(h:MpT w b n M)(C:a.eval m=.map (some b))(p q:UInt8)(y:a.eval x=.agg #[.int .u8 p.toNat,.int .u8 q.toNat]){t:List UInt8}(u:M p q=some t)
 (hK:wpList prog ops Q rest (a.put o.dst (.tuple #[.agg #[.string (B t)],.bool true])) w):
 wpList prog ops Q (o::rest) a w:=
 ZnC D m x j h C p q y λs hs=>by rw[hs t u,u];exact hK
theorem ZuY{w:World}{b n:Nat}{M:UInt8->UInt8->Option (List UInt8)}(D:o.guard=none)(m x:Operand)(j:o.op=Op.lookup 273 m x true)(h:MpT w b n M)(y:a.eval m=.map (some b))(p q:UInt8)(u:a.eval x=.agg #[.int .u8 p.toNat,.int .u8 q.toNat])(C:M p q=some [])
 (hK:wpList prog ops Q rest (a.put o.dst (.tuple #[.agg #[.string ⟨#[]⟩],.bool true])) w):
 wpList prog ops Q (o::rest) a w:=ZnE D m x j h y p q u C hK
theorem ZlS(L:o.guard=none)(s x:Operand)(V:o.op=.call {callee:=.builtin .append,args:=#[s,x],argTypes:=#[110,9]})(base:Nat)(v:Value)(l:List UInt8)(hs:a.eval s=v)(W:World)(y:List UInt8)
 (q:W.ownsRow base 5 1 v l.length (l.map u8V)) (j:base<=W.heap.size) (N:l.length<=35184372080000) (hy:y.length<=1000000) (U:a.eval x=.string (B y))
 (h:∀u w',Hid (w'.ownsRow base 5 1 u (l++y).length ((l++y).map u8V))->Below base W w'->wpList prog ops Q rest (a.put o.dst u) w'):
 wpList prog ops Q (o::rest) a W:=by
 obtain⟨O,X,I,D,C⟩:=info_parts ZeK;have J:=Zj y;refine Lib.wpList_append_own_string W L s x 110 9 V base 5 O underlying110 underlying9 X I D C v l.length _ hs q (B y) U (by unfold maxLen;omega) (by omega) j ?_;intro u w' Z Y _;refine h u w' (QQ ?_) (Zad (Below.refl _ W) q Y j NL);rw[List.length_append,List.map_append,<-J,<-ZwM];exact Z
end
def Zce{w:World}{K:Nat}{a b:Value}{T:TypeId}(h:w.heap[K]?=some (.cells #[a,b] T (0,0))):w.cell? ⟨K,0,none⟩=some a/\w.cell? ⟨K,1,none⟩=some b/\w.frozen? ⟨K,0,none⟩=false/\w.frozen? ⟨K,1,none⟩=false:=
 ⟨by rw[cell_of_row _ K 0 _ _ _ h];rfl,by rw[cell_of_row _ K 1 _ _ _ h];rfl,frozen_of_row _ K 0 _ _ h,frozen_of_row _ K 1 _ _ h⟩
def D2Rel(f:UInt8->UInt8->List Int)(l:List UInt8)(w0 W2:World)(v i:Value)(wr:World):Prop:=
 ∃(k n:Nat) (j:List Int) (M:UInt8->UInt8->Option (List UInt8)),k<=l.length/\i=.int .i64 k/\n<=k/\Zr f l 0=Za7 j (Zr f (l.drop k) k)/\(Zd j).length<=4*k/\
  Hid (wr.ownsRow (w0.heap.size+2) 5 1 v (Zd j).length ((Zd j).map u8V))/\MpT wr (w0.heap.size+1) n M/\Hid (∀x y t,M x y=some t->t=Zd (f x y))/\But (w0.heap.size+1) (w0.heap.size+2) W2 wr
def But.grownK{C:Nat}{w w':World}(j:w.grownBy w' (some C)):But C w.heap.size w w':=
 ⟨j.os,j.tape,j.output,j.size,λk q u=>j.block k q (by simpa using u)⟩
def ZeX{l:List UInt8}(h:l≠[]):(B l).toList.isEmpty=false:=by
 have e:(B l).toList=l:=by rw[ByteArray.toList_eq,Z9]
 rw[e];cases l with
 |nil=>exact absurd rfl h
 |cons a l=>rfl
def ZiM(wr C:World)(two:Array Value)(q:Value)(y u:TypeId)(j:Below ((wr.alloc (.cells two y)).drew.alloc (.cells #[q] u)).heap.size ((wr.alloc (.cells two y)).drew.alloc (.cells #[q] u)) C):
 Below wr.heap.size wr C/\C.heap[wr.heap.size+1]?=some (.cells #[q] u (0,0)):=by
 have D:((wr.alloc (.cells two y)).drew).heap.size=wr.heap.size+1:=by simp[World.drew]
 have e:=heap_alloc_new (wr.alloc (.cells two y)).drew (.cells #[q] u);rw[D] at e;refine⟨?_,?_⟩
 ·exact((((Below.refl _ wr).alloc NL _).trans (Below.refl _ _).drew).alloc (by rw[D];omega) _).trans (j.mono (by simp[World.drew];omega))
 ·rw[j.block _ (by simp[World.drew]),e]
def Zmm(wr:World)(two:Array Value)(j:Value)(u q:TypeId):Below wr.heap.size wr ((wr.alloc (.cells two u)).alloc (.cells #[j] q)).drew:=
 (((Below.refl _ wr).alloc NL _).alloc (by simp) _).drew
def Zml{K:Nat}(wr j q:World)(two:Array Value)(u ts:Value)(D C:TypeId)(hK:K<wr.heap.size)(y:Below ((wr.alloc (.cells two D)).drew.alloc (.cells #[u] C)).heap.size ((wr.alloc (.cells two D)).drew.alloc (.cells #[u] C)) j)
 (I:(j.setCell ⟨wr.heap.size+1,0,none⟩ ts).grownBy q (some K)):q.cell? ⟨wr.heap.size+1,0,none⟩=some ts/\But K wr.heap.size wr q:=by
 obtain⟨U,L⟩:=ZiM wr j two u D C y;have O:=heap_setCell_same j (wr.heap.size+1) 0 _ _ ts L;have N:wr.heap.size+1<j.heap.size:=(Array.getElem?_eq_some_iff.1 L).1;refine⟨?_,?_⟩
 ·have J:=I.block (wr.heap.size+1) (by simpa[World.setCell] using N) (by simp;omega);rw[O] at J;rw[cell_of_row _ _ 0 _ _ _ J];rfl
 ·exact((But.of U).setCell (.inl (by show wr.heap.size<=wr.heap.size+1;omega)) ts).trans ((But.grownK I).mono (by simp[World.setCell];omega))
def D2V:Zay->Value
 | .inl ps=>.tuple #[.string (B (Zd ps)),.agg #[.int .i64 0,.int .i64 0]]
 | .inr n=>.tuple #[.string ⟨#[]⟩,.agg #[.int .i64 2,.int .i64 n]]
def Z6(r:Zay)(w0:World)(e:Ending)(w':World):Prop:=e=.returned (D2V r)/\Below w0.heap.size w0 w'
def ZkO(c:Nat)(f:UInt8->UInt8->List Int)(V:∀a b,(Zd (f a b)).length<=8)(l:List UInt8)(hl:l.length<=100000)(w:World)(hG:Grd w)
 (hS:∀(k:Nat) (a b:UInt8),l[k]?=some a->l[k+1]?=some b->128<=a.toNat->∀wx,Below w.heap.size w wx->Calls prog 230 #[.int .i64 c,.int .u8 a.toNat,.int .u8 b.toNat] wx λe w'=>e=.returned (.string (B (Zd (f a b))))/\Below wx.heap.size wx w'):
 Calls prog 151 #[.int .i64 c,.string (B l)] w (Z6 (Zr f l 0) w):=by
 have bj:=Zj l;have HP:Hid (∀r w',Zr f l 0=r->Below w.heap.size w w'->Z6 (Zr f l 0) w (.returned (D2V r)) w'):=QQ λr w' h1 h2=>by rw[h1];exact⟨rfl,h2⟩
 generalize Z6 (Zr f l 0) w=P at*;obtain⟨i0,hi,bg,bf,be⟩:=info_parts ZeK;have bk:=@run_makeMap prog;obtain⟨W2,aE⟩:∃W2,W2=(w.alloc (.cells #[.int .i64 0,.int .i64 0] 34)).alloc (.map #[] 0):=⟨_,rfl⟩
 have bi:W2.heap.size=w.heap.size+1+1:=by rw[aE];simp
 have ab:=QQ aE;go_enter func151,ntmps151
 go_wp2_with fail
 rw[<-ab.out];go_loopw [7,8] (λv i wr=>D2Rel f l w W2 v i wr) (λ_ i _=>l.length - (intOf i).toNat)
 case atStart=>
  refine⟨0,0,[],λ_ _=>none,Nat.zero_le _,rfl,Nat.le_refl _,?_,by simp[Zb0],QQ ⟨by simp[Zb0],.inl ⟨rfl,rfl⟩⟩,?_,QQ (λ_ _ _ h=>by cases h),But.refl _ _ _⟩
  ·rw[List.drop_zero];exact(Ztl _).symm
  ·rw[ab.out];have:=MpT.made (w.alloc (.cells #[.int .i64 0,.int .i64 0] 34));rw[World.size_alloc] at this;exact this
 case round=>
  obtain⟨k,n,C,M,hk,rfl,hn,he,aB,u,hM,N,hb⟩:=hrel;have hz:=hb.size;have W:Below w.heap.size w wr:=by
   have h2:Below w.heap.size w W2:=by rw[ab.out];exact((Below.refl _ _).alloc NL _).alloc (by simp) _
   exact h2.trans ((hb.mono (by omega)).below (by omega))
  have bq:Grd wr:=hG.below W;have ax:w.heap.size<wr.heap.size:=by omega
  have a3:w.heap.size+1<wr.heap.size:=by omega
  by_cases am:k<l.length
  ·have hg:=ZaV l k am;by_cases Y:l[k].toNat<128
   ·have aA:=Ztn f l k am Y;have q:Zr f l 0=Za7 (C++[(l[k].toNat:Int)]) (Zr f (l.drop (k+1)) (k+1)):=by rw[he,aA,Zmo]
    have L:=QQ q;have ee:Hid (Zd (C++[(l[k].toNat:Int)])=Zd C++[l[k]]):=QQ (by rw[Zkg,Ze8 (by omega) (by omega)];congr 2;simp);clear he q aA;go_wp2_with (at_builtin;refine Zel rfl _ _ rfl (w.heap.size+2) u7 (Zd C) rfl wr (l[k]) _ rfl u (by omega) (by omega) rfl ?_;intro v6 w6 ak O;have U:=QQ O;clear O)
    go_roundw
    case rel=>
     refine⟨k+1,n,_,M,by omega,by go_num,by omega,L,by rw[ee.out,List.length_append,List.length_singleton];omega,QQ (by rw[ee.out];exact ak),hM.same (U.block _ (by omega)),N,hb.trans (But.of U)⟩
    case measure=>simp[intOf];omega
   ·have hh:128<=(l[k].toNat:Int):=by omega
    by_cases aQ:l.length=k+1
    ·have hr:=Ztp f l k am Y aQ;have q:Zr f l 0=.inr k:=by rw[he,hr];rfl
     have L:=QQ q;have hF:=hb.block w.heap.size (by omega) (by omega);rw[ab.out,Below.heap_alloc _ _ _ (by simp),heap_alloc_new] at hF;obtain⟨q0,q1,q2,q3⟩:=Zce hF;clear he q hr hF u hM N aB;go_wp2_with fail
     refine bodyPost_ret (v:=.tuple #[.string ⟨#[]⟩,.agg #[.int .i64 2,.int .i64 k]]) (by simp[results,results151,go_sem,q0,q1]) rfl ?_;exact HP (.inr k) _ L ((W.setCell NL _).setCell NL _)
    ·have an:k+1<l.length:=by omega
     have bo:=ZaV l (k+1) an;have bn:((k:Int)+1).toNat=k+1:=by omega
     have hF:=hb.block w.heap.size (by omega) (by omega);rw[ab.out,Below.heap_alloc _ _ _ (by simp),heap_alloc_new] at hF;have bm:¬(l.length:Int) - k<2:=by omega
     have af:=hS k (l[k]) (l[k+1]) (List.getElem?_eq_getElem am) (List.getElem?_eq_getElem an) (by omega);have aa:=QQ W;have aR:=V (l[k]) (l[k+1]);by_cases Z:f l[k] l[k+1]=[]
     ·have hr:=Zto f l k an Y Z;have q:Zr f l 0=.inr k:=by rw[he,hr];rfl
      have L:=QQ q;clear he q hr;generalize aN:l[k]=x at*;generalize aM:l[k+1]=y at*;have ay:Zd (f x y)=[]:=by rw[Z];rfl
      have aj:=((hM.below ((Below.refl _ wr).alloc NL (.cells #[.int .u8 x.toNat,.int .u8 y.toNat] 274))).below ((Below.refl _ _).drew))
      have HF:=QQ hF;rw[ay,show B []=⟨#[]⟩ from rfl] at af;clear hS V Z aR;cases J:M x y with
      |none=>
       have I:=J;clear J N u;go_wp2_with fail
       go_region
       go_wp2_with (first
        |(at_lookup;refine mt_no rfl _ _ rfl aj rfl x y rfl I ?_;intro t0)
        |(go_at_call 230;refine MR (af _ (((aa.alloc aa.size _).drew).alloc (by have:=aa.size;simp[World.drew];omega) _)) λw1 X=>?_;obtain⟨aU,aT⟩:=Zcu X;have aw:=QQ X;have au:=(hM.below (ZiM _ _ _ _ _ _ X).1).same (Zfv (w:=w1) (k:=wr.heap.size+1) (j:=0) (g:=w.heap.size+1) (by omega) (.string ⟨#[]⟩)))
        |(at_mapUpdate;refine ZnD rfl _ _ _ rfl au rfl x y rfl [] rfl (by omega) ?_;intro w4 ai ae;obtain⟨q4,D⟩:=Zml _ _ _ _ _ _ _ _ (by omega) aw ae;have aV:=Zce ((D.block w.heap.size (by omega) (by omega)).trans hF);obtain⟨p0,p1,p2,p3⟩:=aV;have ap:=QQ D;have aF:=QQ ai;clear D ai ae))
       refine bodyPost_ret (v:=.tuple #[.string ⟨#[]⟩,.agg #[.int .i64 2,.int .i64 k]]) (by simp[results,results151,go_sem,p0,p1]) rfl ?_;exact HP (.inr k) _ L ((((W.trans ((ap.mono W.size).below (by omega))).setCell NL _).setCell NL _))
      |some tt=>
       have aO:tt=[]:=by rw[N.out x y tt J,ay]
       subst aO;have I:=J;clear J N u af;have qF:=Zce hF;obtain⟨p0,p1,p2,p3⟩:=qF;go_wp2_with fail
       go_region
       go_wp2_with (first
        |(at_lookup;refine ZuY rfl _ _ rfl aj rfl x y rfl I ?_))
       refine bodyPost_ret (v:=.tuple #[.string ⟨#[]⟩,.agg #[.int .i64 2,.int .i64 k]]) (by simp[results,results151,go_sem,p0,p1,ax]) rfl ?_;exact HP (.inr k) _ L (((((W.setCell NL _).setCell NL _).alloc (by simp[World.setCell];omega) _).alloc (by simp[World.setCell];omega) _).drew)
     ·have hr:=Ztq f l k an Y Z;have q:Zr f l 0=Za7 (C++f l[k] l[k+1]) (Zr f (l.drop (k+2)) (k+2)):=by rw[he,hr,Zmo]
      have az:Zd (C++f l[k] l[k+1])=Zd C++Zd (f l[k] l[k+1]):=Zgy _ _;have aP:Zd (f l[k] l[k+1])≠[]:=by
       intro h;cases hq:f l[k] l[k+1] with
       |nil=>exact Z hq
       |cons p ps=>rw[hq,Za9] at h;exact ZiV p (List.append_eq_nil_iff.1 h).1
      clear he hr hS V;generalize aN:l[k]=x at*;generalize aM:l[k+1]=y at*;have aX:=QQ (show Zd (f x y)=Zd (f x y) from rfl);have ah:∀tt,M x y=some tt->tt=Zd (f x y):=λtt h=>N x y tt h;generalize aC:Zd (f x y)=ts at*;have aY:=QQ aC;have L:=QQ q;have ao:=QQ az;have a4:(B ts).toList.isEmpty=false:=ZeX aP;clear aC q az aX Z;have aj:=((hM.below ((Below.refl _ wr).alloc NL (.cells #[.int .u8 x.toNat,.int .u8 y.toNat] 274))).below ((Below.refl _ _).drew))
      cases J:M x y with
      |none=>
       have I:=J;clear J ah;go_wp2_with fail
       go_region
       go_wp2_with (first
        |(at_lookup;refine mt_no rfl _ _ rfl aj rfl x y rfl I ?_;intro t0)
        |(go_at_call 230;refine MR (af _ (((aa.alloc aa.size _).drew).alloc (by have:=aa.size;simp[World.drew];omega) _)) λw1 X=>?_;obtain⟨aU,aT⟩:=Zcu X;have aw:=QQ X;have au:=(hM.below (ZiM _ _ _ _ _ _ X).1).same (Zfv (w:=w1) (k:=wr.heap.size+1) (j:=0) (g:=w.heap.size+1) (by omega) (.string (B ts))))
        |(at_mapUpdate;refine ZnD rfl _ _ _ rfl au rfl x y rfl ts rfl (by omega) ?_;intro w4 ai ae;obtain⟨q4,D⟩:=Zml _ _ _ _ _ _ _ _ (by omega) aw ae;have ap:=QQ D;have aF:=QQ ai;have bh:=D.size;clear D ai ae)
        |(at_builtin;refine ZlS rfl _ _ rfl (w.heap.size+2) u7 (Zd C) rfl w4 ts (ZdX u ap (by omega)) (by omega) (by omega) (by omega) rfl ?_;intro v6 w6 ak O;have U:=QQ O;clear O))
       go_roundw
       case rel=>
        refine⟨k+2,n+1,_,_,by omega,by go_num,by omega,L,by rw[ao.out,List.length_append];omega,QQ (by rw[ao.out];exact ak),aF.same (U.block _ (by omega)),QQ ?_,hb.trans ((ap.mono (by omega)).trans (But.of U))⟩;intro a b t h;by_cases e:a=x/\b=y
        ·simp only[e,and_self,if_true,Option.some.injEq] at h;rw[<-h,e.1,e.2];exact aY.symm
        ·simp only[e,if_false] at h;exact N a b t h
       case measure=>simp[intOf];omega
      |some tt=>
       obtain rfl:=ah tt J;have I:=J;clear J ah af;go_wp2_with fail
       go_region
       go_wp2_with (first
        |(at_lookup;refine ZnE rfl _ _ rfl aj rfl x y rfl I ?_)
        |(at_builtin;refine ZlS rfl _ _ rfl (w.heap.size+2) u7 (Zd C) rfl _ tt (ZB u (Zmm _ _ _ _ _)) (by simp[World.drew];omega) (by omega) (by omega) rfl ?_;intro v6 w6 ak O;have U:=QQ O;clear O))
       go_roundw
       case rel=>
        have aD:=Zmm wr #[.int .u8 x.toNat,.int .u8 y.toNat] (.string (B tt)) 274 276;refine⟨k+2,n,_,_,by omega,by go_num,by omega,L,by rw[ao.out,List.length_append];omega,QQ (by rw[ao.out];exact ak),(hM.below aD).same (U.block _ (by omega)),N,hb.trans (But.of ((aD.mono (by omega)).trans U))⟩
       case measure=>simp[intOf];omega
  ·have aS:k=l.length:=by omega
   subst aS;have hr:=Ztm f l l.length NL;have q:Zr f l 0=.inl C:=by rw[he,hr];simp[Za7]
   have L:=QQ q;have bp:=ZfZ wr u.out;have hF:=hb.block w.heap.size (by omega) (by omega);rw[ab.out,Below.heap_alloc _ _ _ (by simp),heap_alloc_new] at hF;obtain⟨q0,q1,q2,q3⟩:=Zce hF;clear he q hr hF u hM N aB;go_wp2_with fail
   refine bodyPost_ret (v:=.tuple #[.string (B (Zd C)),.agg #[.int .i64 0,.int .i64 0]]) (by simp[results,results151,go_sem,q0,q1]) rfl ?_;exact HP (.inl C) _ L ((W.setCell NL _).setCell NL _)
def Zww(c:Nat):∀a b,(Zd (sg2 c a b)).length<=8:=λa b=>by
 have q:=Zo2 c a b;have j:=(Zbp (sg2 c a b)).2;omega
def Zp7(c:Nat)(q:4<=c/\c<=6)(l:List UInt8)(j:l.length<=100000)(w:World)(hG:Grd w):
 Calls prog 151 #[.int .i64 c,.string (B l)] w (Z6 (Zr (sg2 c) l 0) w):=
 ZkO c (sg2 c) (Zww c) l j w hG λ_ a b _ _ _ wx hb=>ZpU c q a b wx (hG.below hb).db
open Go Go.RowKit
def F2{w j:World}{T:TypeId}{a b:Value}(hb:Below (w.alloc (.cells #[a,b] T)).heap.size (w.alloc (.cells #[a,b] T)) j):j.heap[w.heap.size]?=some (.cells #[a,b] T (0,0)):=by
 rw[hb.block _ (by simp),heap_alloc_new]
def ZkF(c:Nat)(L:c<=3)(l:List UInt8)(X:l.length<=100000)(w:World)(hG:Grd w):
 Calls prog 91 #[.int .i64 c,.string (B l)] w λe w'=>e=.returned (.tuple #[.string (B (Zd (l.map λx=>Zbj c x.toNat))),.agg #[.int .i64 0,.int .i64 0]])/\Below w.heap.size w w':=by
 have C:=λw hT=>ZrG c L w hT;have D:=λ{A} {cp} {q} {rs} hL hn w h hT=>ZkP L (A:=A) (cp:=cp) (q:=q) (rs:=rs) (B l) hL (by rw[Zj];exact X) hn w h hT;rw[show tB ((B l).data.toList.map λx=>Zbj c x.toNat)=B (Zd (l.map λx=>Zbj c x.toNat)) by rw[Z9];rfl] at D;generalize B (Zd (l.map λx=>Zbj c x.toNat))=R at*;have hT:=hG.tabs;unfold ZbA at C;rcases(show c=0\/c=1\/c=2\/c=3 by omega) with rfl|rfl|rfl|rfl
 all_goals
  go_enter func91,ntmps91
  go_wp2_with (first
   |(go_at_call 149;refine(C _ (ZK hT _)).mono ?_;rintro e w1 ⟨A,cp,rs,rfl,h1,Z,Y,N,j⟩;have T1:=ZaQ (ZK hT _) j NL;have O:=QQ (F2 j);have U:=QQ (Ze j);have H4:=QQ N;clear j N)
   |(go_at_call 150;refine MR (D H4 Z _ ((Y.below ((Below.refl _ _).alloc NL _)).more (by simp)) (ZK T1 _)) λw2 y=>?_;have u:=(Ze y).block w.heap.size (Array.getElem?_eq_some_iff.1 O).1;rw[O.out] at u;have I:=U.trans ((Ze y).mono U.size);obtain⟨W,V,q2,q3⟩:=Zce u;have ab:=QQ u;have J:=QQ I;clear y u I))
  refine bodyPost_ret (v:=.tuple #[.string R,.agg #[.int .i64 0,.int .i64 0]]) (by simp[results,results91,go_sem,W,V]) rfl ⟨rfl,?_⟩;exact(J.setCell NL _).setCell NL _
def ZkL(r:Zay):∃s e a,D2V r=.tuple #[.string s,.agg #[.int .i64 e,.int .i64 a]]:=by
 cases r with
 |inl ps=>exact⟨_,_,_,rfl⟩
 |inr n=>exact⟨_,_,_,rfl⟩
def ZkG(c:Nat)(N:4<=c/\c<=6)(l:List UInt8)(w:World)(hG:Grd w)(r:Zay)
 (hd:∀wx,Below w.heap.size w wx->Calls prog 151 #[.int .i64 c,.string (B l)] wx (Z6 r wx)):
 Calls prog 91 #[.int .i64 c,.string (B l)] w (Z6 r w):=by
 unfold Z6 at hd⊢;obtain⟨s,x,a,y⟩:=ZkL r;rw[y] at hd⊢;rcases(show c=4\/c=5\/c=6 by omega) with rfl|rfl|rfl
 all_goals
  go_enter func91,ntmps91
  go_wp2_with (go_at_call 151;refine MR (hd _ ((Below.refl _ w).alloc NL _)) λI j=>?_;have C:=QQ (F2 j);obtain⟨u,q,L,J⟩:=Zce C.out;have D:=QQ (Ze j);clear j)
  refine bodyPost_ret (v:=.tuple #[.string s,.agg #[.int .i64 x,.int .i64 a]]) (by simp[results,results91,go_sem,u,q]) rfl ⟨rfl,?_⟩;exact(D.setCell NL _).setCell NL _
def ZpS(c:Nat)(j:4<=c/\c<=6)(l:List UInt8)(q:l.length<=100000)(w:World)(hG:Grd w):
 Calls prog 91 #[.int .i64 c,.string (B l)] w (Z6 (Zr (sg2 c) l 0) w):=
 ZkG c j l w hG _ λwx hb=>Zp7 c j l q wx (hG.below hb)
def Zh8(big:Bool)(l:List UInt8)(N:l.length<=100000)(w:World):
 Calls prog 91 #[.int .i64 (if big then 9 else 8),.string (B l)] w (Z6 (ZbO big l) w):=by
 have hd:∀w,Calls prog 123 #[.string (B l),.bool big] w (Z6 (ZbO big l) w):=by
  intro w;rcases ZgA big l with⟨ps,h,e⟩|⟨n,h,e⟩
  ·rw[e];exact(ZlG big (B l) ps h (by rw[Zj];omega) w).mono λe w' h=>⟨h.1,h.2⟩
  ·rw[e];exact(ZlF big (B l) n h (by rw[Zj];omega) w).mono λe w' h=>⟨h.1,h.2⟩
 unfold Z6 at hd⊢;generalize ZbO big l=r at*;obtain⟨s,x,a,y⟩:=ZkL r;rw[y] at hd⊢;cases big
 all_goals
  go_enter func91,ntmps91
  go_wp2_with (go_at_call 123;refine MR (hd _) λI j=>?_;have C:=QQ (F2 j);obtain⟨u,q,L,J⟩:=Zce C.out;have D:=QQ (Ze j);clear j)
  refine bodyPost_ret (v:=.tuple #[.string s,.agg #[.int .i64 x,.int .i64 a]]) (by simp[results,results91,go_sem,u,q]) rfl ⟨rfl,?_⟩;exact(D.setCell NL _).setCell NL _
def Zpu{l:List UInt8}{ps:List Int}(h:Good ⟨l.toArray⟩ ps):Zd ps=l:=by
 have:=h.1;simpa using this.symm
def ZkH(l:List UInt8)(Y:l.length<=100000)(w:World)(hG:Grd w):
 Calls prog 91 #[.int .i64 7,.string (B l)] w (Z6 (ZcX l) w):=by
 have hT:=hG.tabs;rcases Zd9 l with⟨ps,h,e⟩|⟨n,h,e⟩
 ·rw[e];unfold Z6 D2V;simp only;rw[Zpu h];have C:=λw hT=>Zia (B l) ps h (by rw[Zj];omega) w hT;have D:=λw=>ZG 0 0 rfl w;clear h e;go_enter func91,ntmps91
  go_wp2_with (first
   |(go_at_call 152;refine MR (C _ (ZK hT _)) λV q=>?_;have J:=QQ (F2 q);have L:=QQ (Ze q);clear q)
   |(go_at_call 8;refine MR (D _) λU j=>?_;have u:=(Ze j).block w.heap.size (Array.getElem?_eq_some_iff.1 J).1;rw[J.out] at u;have y:=L.trans ((Ze j).mono L.size);obtain⟨O,N,X,W⟩:=Zce u;have I:=QQ y;clear j u y))
  refine bodyPost_ret (v:=.tuple #[.string (B l),.agg #[.int .i64 0,.int .i64 0]]) (by simp[results,results91,go_sem,O,N]) rfl ⟨rfl,?_⟩;exact(I.setCell NL _).setCell NL _
 ·rw[e];unfold Z6 D2V;simp only;have C:=λw hT=>ZpW (B l) n h (by rw[Zj];omega) w hT;have D:=λw=>ZV 2 n (by decide) w;clear h e;go_enter func91,ntmps91
  go_wp2_with (first
   |(go_at_call 152;refine MR (C _ (ZK hT _)) λV q=>?_;have J:=QQ (F2 q);have L:=QQ (Ze q);clear q)
   |(go_at_call 8;refine MR (D _) λU j=>?_;have u:=(Ze j).block w.heap.size (Array.getElem?_eq_some_iff.1 J).1;rw[J.out] at u;have y:=L.trans ((Ze j).mono L.size);obtain⟨O,N,X,W⟩:=Zce u;have I:=QQ y;obtain⟨b0,b1,f0,Z⟩:=Zce (F2 j);clear j u y))
  go_region
  go_wp2_with fail
  refine bodyPost_ret (v:=.tuple #[.string ⟨#[]⟩,.agg #[.int .i64 2,.int .i64 n]]) (by simp[results,results91,go_sem,O,N]) rfl ⟨rfl,?_⟩;exact((I.setCell NL _).setCell NL _).drew
def ZpQ(l:List UInt8)(j:l.length<=100000)(w:World)(hG:Grd w):
 Calls prog 91 #[.int .i64 7,.string (B l)] w (Z6 (ZZ 7 l) w):=by
 unfold ZZ;rw[if_neg (by decide),if_neg (by decide),if_pos rfl];exact ZkH l j w hG
def ZpR(l:List UInt8)(j:l.length<=100000)(w:World):
 Calls prog 91 #[.int .i64 9,.string (B l)] w (Z6 (ZZ 9 l) w):=by
 unfold ZZ;rw[if_neg (by decide),if_neg (by decide),if_neg (by decide)];exact Zh8 true l j w
def Zh7(c:Nat)(C:c<=9)(l:List UInt8)(j:l.length<=100000)(w:World)(hG:Grd w):
 Calls prog 91 #[.int .i64 c,.string (B l)] w (Z6 (ZZ c l) w):=by
 unfold ZZ;by_cases q:c<=3
 ·rw[if_pos q];exact ZkF c q l j w hG
 rw[if_neg q];by_cases y:c<=6
 ·rw[if_pos y];exact ZpS c (by omega) l j w hG
 rw[if_neg y];by_cases u:c=7
 ·subst u;rw[if_pos rfl];exact ZkH l j w hG
 rw[if_neg u];rcases(show c=8\/c=9 by omega) with rfl|rfl
 ·exact Zh8 false l j w
 ·exact Zh8 true l j w
def Zwy{c:Nat}(j:c<=3)(x:UInt8):Zm (Zbj c x.toNat)=true:=Zo4 j x.toNat_lt
def Ztr{c:Nat}(l:List UInt8)(ps:List Int)(h:ZZ c l=.inl ps):∀p∈ps,Zm p=true:=by
 unfold ZZ at h;split at h
 ·rename_i y
  injection h with h;subst h
  intro p u;obtain⟨x,_,rfl⟩:=List.mem_map.1 u;exact Zwy y x
 ·split at h
  ·exact ZiQ _ (Zwx c) l 0 ps h
  ·split at h
   ·rcases Zd9 l with⟨q,j,e⟩|⟨n,j,e⟩
    ·rw[e] at h;injection h with h;subst h;exact j.2
    ·rw[e] at h;cases h
   ·rcases ZgA (c==9) l with⟨q,j,e⟩|⟨n,j,e⟩
    ·rw[e] at h;injection h with h;subst h;exact j.2
    ·rw[e] at h;cases h
open Go
def InS.ext(s:InS)(q:List UInt8):InS:={s with t:=s.t++q}
def ZdH{α:Type}(f:InS->α×InS):Prop:=∀s:InS,s.n<=s.t.length->(f s).2.e=0->s.e=0/\(f s).2.n<=(f s).2.t.length/\s.n<=(f s).2.n/\(f s).2.t=s.t/\∀q,f (s.ext q)=((f s).1,(f s).2.ext q)
def Zfa{s:InS}{e a:Nat}(he:e≠0):(s.fail e a).e≠0:=by
 unfold InS.fail;split
 ·exact he
 ·next h=>exact λh0=>h ⟨h0,he⟩
def ZhP{s:InS}:s.short.e≠0:=Zfa (by decide)
def Zf6(k:Nat):ZdH λs=>s.take k:=by
 intro s hn he;have he:(s.take k).2.e=0:=he;show s.e=0/\(s.take k).2.n<=(s.take k).2.t.length/\s.n<=(s.take k).2.n/\(s.take k).2.t=s.t/\∀q,(s.ext q).take k=((s.take k).1,(s.take k).2.ext q)
 unfold InS.take at he⊢;by_cases h0:s.e≠0
 ·rw[if_pos h0] at he;exact absurd he h0
 ·rw[if_neg h0] at he⊢;by_cases j:s.t.length - s.n<k
  ·rw[if_pos j] at he;exact absurd he ZhP
  ·rw[if_neg j];refine⟨Classical.not_not.1 h0,by simp only;omega,by simp only;omega,rfl,λq=>?_⟩;rw[if_neg (show¬(s.ext q).e≠0 from h0),if_neg (show¬(s.ext q).t.length - (s.ext q).n<k by show¬(s.t++q).length - s.n<k;rw[List.length_append];omega)];show((((s.t++q).drop s.n).take k,_):List UInt8×InS)=_
   rw[List.drop_append_of_le_length hn,List.take_append_of_le_length (by rw[List.length_drop];omega)];rfl
def ZdH.map{α β:Type}{f:InS->α×InS}(h:ZdH f)(g:α->β):ZdH λs=>(g (f s).1,(f s).2):=λs hn he=>by
 obtain⟨a,b,c,d,e⟩:=h s hn he;exact⟨a,b,c,d,λq=>by simp only;rw[e q]⟩
def Zfe(w:Nat):ZdH λs=>s.big w:=(Zf6 (min w 8)).map InS.bigN
def Zmq:∀(w l q:List UInt8),InS.differ w l=none->w.length<=l.length->InS.differ w (l++q)=none
 |[],_,_,_,_=>by simp[InS.differ]
 |x::r,[],_,_,j=>by simp at j
 |x::r,y::l,q,h,j=>by
  simp only[InS.differ] at h;split at h
  ·next hxy=>
   rw[Option.map_eq_none_iff] at h;rw[List.cons_append];simp only[InS.differ];rw[if_pos hxy,Zmq r l q h (by simpa using j)];rfl
  ·cases h
def Zf7(w:List UInt8):ZdH λs=>s.want w:=by
 intro s hn he;have he:(s.want w).2.e=0:=he;show s.e=0/\(s.want w).2.n<=(s.want w).2.t.length/\s.n<=(s.want w).2.n/\(s.want w).2.t=s.t/\∀q,(s.ext q).want w=((s.want w).1,(s.want w).2.ext q)
 unfold InS.want at he⊢;by_cases h0:s.e≠0
 ·rw[if_pos h0] at he;exact absurd he h0
 ·rw[if_neg h0] at he⊢;cases hd:InS.differ w (s.t.drop s.n) with
  |some i=>
   rw[hd] at he;exact absurd he (Zfa (by decide))
  |none=>
   rw[hd] at he;simp only at he⊢;by_cases j:s.t.length - s.n<w.length
   ·rw[if_pos j] at he;exact absurd he ZhP
   ·rw[if_neg j];refine⟨Classical.not_not.1 h0,by simp only;omega,by simp only;omega,rfl,λq=>?_⟩;rw[if_neg (show¬(s.ext q).e≠0 from h0)];have u:InS.differ w ((s.ext q).t.drop (s.ext q).n)=none:=by
     show InS.differ w ((s.t++q).drop s.n)=none
     rw[List.drop_append_of_le_length hn];exact Zmq w _ q hd (by rw[List.length_drop];omega)
    rw[u];simp only;rw[if_neg (show¬(s.ext q).t.length - (s.ext q).n<w.length by show¬(s.t++q).length - s.n<_;rw[List.length_append];omega)];rfl
def Zm2:ZdH InS.safe:=by
 intro s hn he;unfold InS.safe at he⊢;simp only at he⊢;cases j:InS.high (s.take 4).1 with
 |some i=>rw[j] at he;exact absurd he (Zfa (by decide))
 |none=>
  rw[j] at he;simp only at he⊢;obtain⟨a,b,c,d,e⟩:=Zf6 4 s hn he;refine⟨a,b,c,d,λq=>?_⟩;have:=e q;simp only at this;rw[this];simp only;rw[j]
def Zdu{s:InS}{c:Prop} [Decidable c]{e a:Nat}(he:e≠0)(h:(if c then s.fail e a else s).e=0):¬c/\s.e=0:=by
 split at h
 ·exact absurd h (Zfa he)
 ·next hc=>exact⟨hc,h⟩
def take_n(s:InS)(k:Nat)(h:(s.take k).2.e=0):(s.take k).2.n=s.n+k:=by
 unfold InS.take at h⊢;by_cases h0:s.e≠0
 ·rw[if_pos h0] at h;exact absurd h h0
 ·rw[if_neg h0] at h⊢;by_cases j:s.t.length - s.n<k
  ·rw[if_pos j] at h;exact absurd h ZhP
  ·rw[if_neg j]
def ZoS(s:InS)(h:s.safe.2.e=0):s.safe.2.n=s.n+4:=by
 unfold InS.safe at h⊢;simp only at h⊢;cases j:InS.high (s.take 4).1 with
 |some i=>rw[j] at h;exact absurd h (Zfa (by decide))
 |none=>
  rw[j] at h;exact take_n s 4 h
def want_n(s:InS)(w:List UInt8)(h:(s.want w).2.e=0):(s.want w).2.n=s.n+w.length:=by
 unfold InS.want at h⊢;by_cases h0:s.e≠0
 ·rw[if_pos h0] at h;exact absurd h h0
 ·rw[if_neg h0] at h⊢;cases hd:InS.differ w (s.t.drop s.n) with
  |some i=>rw[hd] at h;exact absurd h (Zfa (by decide))
  |none=>
   rw[hd] at h;simp only at h⊢;by_cases j:s.t.length - s.n<w.length
   ·rw[if_pos j] at h;exact absurd h ZhP
   ·rw[if_neg j]
def ZfX(s:InS)(w:Nat)(h:(s.big w).2.e=0):(s.big w).2.n=s.n+min w 8:=take_n s _ h
def Zpy{s:InS}{w:List UInt8}(h:(s.want w).2.e=0):s.e=0:=Classical.not_not.1 λj=>absurd h (by unfold InS.want;rw[if_pos j];exact j)
def ZhT{s:InS}{k:Nat}(h:(s.take k).2.e=0):s.e=0:=Classical.not_not.1 λj=>absurd h (by unfold InS.take;rw[if_pos j];exact j)
def ZfW{s:InS}{k:Nat}(h:(s.big k).2.e=0):s.e=0:=ZhT h
def Zj2{s:InS}(h:s.safe.2.e=0):s.e=0:=Classical.not_not.1 λj=>absurd h (by
 unfold InS.safe;simp only;have e0:s.take 4=([],s):=by unfold InS.take;rw[if_pos j]
 rw[e0];exact j)
def ZoJ(s:InS)(q:List UInt8)(hn:s.n<=s.t.length)(he:s.e=0):(s.ext q).rest.1=s.rest.1++q:=by
 have key:∀s:InS,s.n<=s.t.length->s.e=0->s.rest.1=s.t.drop s.n:=λs hn he=>by
  unfold InS.rest InS.left InS.take;rw[if_pos he,if_neg (λj=>j he),if_neg (by omega)];exact List.take_of_length_le (by rw[List.length_drop];omega)
 rw[key s hn he,key (s.ext q) (by show s.n<=(s.t++q).length;rw[List.length_append];omega) he];show(s.t++q).drop s.n=_
 rw[List.drop_append_of_le_length hn]
def Zm8(s:InS)(hn:s.n<=s.t.length)(he:(ZW s).2.e=0):
 s.e=0/\(ZW s).2.n<=(ZW s).2.t.length/\(ZW s).2.n=s.n+6/\(ZW s).2.t=s.t/\∀q,ZW (s.ext q)=((ZW s).1,(ZW s).2.ext q):=by
 unfold ZW at he⊢;simp only at he⊢;by_cases j:((((s.want Zu).2.big 1).2.big 1).2.big 1).2.e≠0
 ·rw[if_pos j] at he;exact absurd he j
 ·rw[if_neg j] at he⊢;simp only at he⊢;obtain⟨D,he⟩:=Zdu (by decide) he;obtain⟨I,he⟩:=Zdu (by decide) he;obtain⟨J,he⟩:=Zdu (by decide) he;obtain⟨L,he⟩:=Zdu (by decide) he;rw[if_neg D,if_neg I,if_neg J,if_neg L];have hb:((((s.want Zu).2.big 1).2.big 1)).2.e=0:=ZfW he;have u:((s.want Zu).2.big 1).2.e=0:=ZfW hb;have C:(s.want Zu).2.e=0:=ZfW u;obtain⟨X,W,w3,V,y⟩:=Zf7 Zu s hn C;obtain⟨a1,a2,a3,a4,U⟩:=Zfe 1 _ W u;obtain⟨b1,b2,b3,b4,O⟩:=Zfe 1 _ a2 hb;obtain⟨c1,c2,c3,c4,N⟩:=Zfe 1 _ b2 he;have n1:=want_n s Zu C;have n2:=ZfX _ 1 u;have Z:=ZfX _ 1 hb;have Y:=ZfX _ 1 he;refine⟨X,c2,?_,(c4.trans b4).trans (a4.trans V),λq=>?_⟩
  ·rw[Y,Z,n2,n1];simp[Zu]
  ·simp only at y U O N;rw[y q];simp only;rw[U q];simp only;rw[O q];simp only;rw[N q];simp only;rw[if_neg (show¬(InS.ext _ q).e≠0 from j),if_neg D,if_neg I,if_neg J,if_neg L]
def ZvF{j:List UInt8}{r:Option Tg×List UInt8}(h:ZS j=.ok r)(q:List UInt8)(hq:¬(j.length<3/\(j++q).take 3=Zu)):ZS (j++q)=.ok (r.1,r.2++q):=by
 unfold ZS at h⊢;by_cases I:j.take 3≠Zu
 ·rw[if_pos I] at h;injection h with h
  subst h;rw[if_pos];intro e;by_cases hl:j.length<3
  ·exact hq ⟨hl,e⟩
  ·exact I (by rw[<-e,List.take_append_of_le_length (by omega)])
 ·rw[if_neg I] at h;have W:3<=j.length:=by
   have:=congrArg List.length (Classical.not_not.1 I);rw[List.length_take] at this;have e3:Zu.length=3:=rfl;omega
  rw[if_neg (by rw[List.take_append_of_le_length W];exact I)];simp only at h⊢;split at h
  ·cases h
  ·next hb=>
   have hb:=Classical.not_not.1 hb;have hs:(ZW ⟨j,0,0,0,0⟩).2.safe.2.e=0:=ZhT hb;have hh:(ZW ⟨j,0,0,0,0⟩).2.e=0:=Zj2 hs;obtain⟨a1,a2,a3,a4,a5⟩:=Zm8 ⟨j,0,0,0,0⟩ (Nat.zero_le _) hh;obtain⟨b1,b2,b3,b4,b5⟩:=Zm2 _ a2 hs;obtain⟨c1,c2,c3,c4,c5⟩:=Zf6 (ZW ⟨j,0,0,0,0⟩).2.safe.1 _ b2 hb;have n1:=ZoS _ hs;have n2:=take_n _ _ hb;have eH:ZW ⟨j++q,0,0,0,0⟩=((ZW ⟨j,0,0,0,0⟩).1,(ZW ⟨j,0,0,0,0⟩).2.ext q):=a5 q;clear a5;have Y:(ZW ⟨j,0,0,0,0⟩).2.t=j:=a4;have Z:(ZW ⟨j,0,0,0,0⟩).2.n=0+6:=a3;clear a3 a4 a1 I;generalize ZW ⟨j,0,0,0,0⟩=C at*;generalize C.2.safe=u at*;have O:(u.2.take u.1).2.n<=(u.2.take u.1).2.t.length:=c2;have N:(u.2.take u.1).2.t=u.2.t:=c4;have X:∀q,(u.2.ext q).take u.1=((u.2.take u.1).1,(u.2.take u.1).2.ext q):=c5;clear c1 c2 c3 c4 c5;have L:10<=j.length:=by
    rw[N,b4,Y,n2] at O;omega
   have X:=X q;clear n1 n2 Z N b4;have c2:=O;have eS:=b5 q;rw[eH];simp only;rw[eS];simp only;rw[X];simp only;generalize u.2.take u.1=U at*;generalize Zcx C.1.1 (ZJ C.1.2.2) (Zbu C.1.1 C.1.2.2 ⟨if ZcV C.1.1 C.1.2.2=true then Zae false U.1 else U.1,0,10,0,0⟩)=Ll at*;rw[if_neg (show¬(InS.ext _ q).e≠0 from λJ=>J hb)];by_cases hf:Ll.2.e≠0
   ·rw[if_pos hf] at h;cases h
   ·rw[if_neg hf] at h⊢;by_cases y:(if ZbZ C.1.1 C.1.2.2=true then((U.2.want ZaB).2.want ((j.take 10).drop 3)).2 else U.2).e≠0
    ·rw[if_pos y] at h;cases h
    ·rw[if_neg y] at h;have y:=Classical.not_not.1 y;injection h with h
     subst h;by_cases D:ZbZ C.1.1 C.1.2.2=true
     ·rw[if_pos D] at y⊢;rw[if_pos D];have V:(U.2.want ZaB).2.e=0:=Zpy y;obtain⟨d1,d2,d3,d4,d5⟩:=Zf7 ZaB _ c2 V;obtain⟨f1,f2,f3,f4,f5⟩:=Zf7 ((j.take 10).drop 3) _ d2 y;simp only at d5 f5 f2;rw[d5 q];simp only;rw[List.take_append_of_le_length L,f5 q];simp only;rw[if_neg (show¬(InS.ext _ q).e≠0 from λJ=>J y),ZoJ _ q f2 y]
     ·rw[if_neg D] at y⊢;rw[if_neg D];rw[if_neg (show¬(InS.ext _ q).e≠0 from λJ=>J y),ZoJ _ q c2 y]
open Go Go.RowKit
def ZkN(p:Int)(w:World):Calls prog 252 #[.int .i32 p] w λe w'=>e=.returned (.bool (Zdv p))/\w=w':=by
 by_cases h0:p=1169
 ·subst h0;go_enter func252,ntmps252
  go_wp2_with fail
  go_ret
  exact⟨rfl,rfl⟩
 have hb:(p==1169)=false:=by simpa using h0
 go_enter func252,ntmps252
 go_wp2
 all_goals go_ret
 all_goals refine⟨ZcQ ?_,rfl⟩
 all_goals (unfold Zdv;rw[Bool.eq_iff_iff];simp;omega)
def ZkM(p:Int)(w:World):Calls prog 251 #[.int .i32 p] w λe w'=>e=.returned (.bool (Zdq p))/\w=w':=by
 by_cases h0:p=1168
 ·subst h0;go_enter func251,ntmps251
  go_wp2_with fail
  go_ret
  exact⟨rfl,rfl⟩
 have hb:(p==1168)=false:=by simpa using h0
 go_enter func251,ntmps251
 go_wp2
 all_goals go_ret
 all_goals refine⟨ZcQ ?_,rfl⟩
 all_goals (unfold Zdq;rw[Bool.eq_iff_iff];simp;omega)
def Zp4(p:Int)(w:World):Calls prog 297 #[.int .i32 p] w λe w'=>e=.returned (.int .i64 (Zfp p))/\w=w':=by
 go_enter func297,ntmps297
 go_wp2
 all_goals go_ret
 all_goals refine⟨ZaH ?_,rfl⟩
 all_goals (unfold Zfp;(repeat' split)<;>first|omega|(simp at* <;>omega))
def Zp3(p:Int)(w:World):Calls prog 298 #[.int .i32 p] w λe w'=>e=.returned (.int .i64 (Zfh p))/\w=w':=by
 go_enter func298,ntmps298
 go_wp2
 all_goals go_ret
 all_goals refine⟨ZaH ?_,rfl⟩
 all_goals (unfold Zfh;(repeat' split)<;>first|omega|(simp at* <;>omega))
def Zp1(p:Int)(w:World):Calls prog 301 #[.int .i32 p] w λe w'=>e=.returned (.int .i64 (ZeZ p))/\w=w':=by
 go_enter func301,ntmps301
 go_wp2
 all_goals go_ret
 all_goals refine⟨ZaH ?_,rfl⟩
 all_goals (unfold ZeZ;(repeat' split)<;>first|omega|(simp at* <;>omega))
def Zp5(p:Int)(w:World):Calls prog 299 #[.int .i32 p] w λe w'=>e=.returned (.int .i64 (ZeH p))/\w=w':=by
 have u:=λw=>ZkN p w;have y:=λw=>ZkM p w;have j:ZeH p=if Zdv p then 4 else if Zdq p then 2 else -4:=rfl
 generalize ZeH p=r at*;generalize Zdv p=a at*;generalize Zdq p=b at*;cases a
 ·cases b
  ·obtain rfl:r= -4:=by rw[j];rfl
   clear j;go_enter func299,ntmps299
   go_wp2_with (first|(go_at_call 252;refine(u _).mono ?_;rintro e q ⟨rfl,rfl⟩)|(go_at_call 251;refine(y _).mono ?_;rintro e q ⟨rfl,rfl⟩))
   go_ret
   exact⟨rfl,rfl⟩
  ·obtain rfl:r=2:=by rw[j];rfl
   clear j;go_enter func299,ntmps299
   go_wp2_with (first|(go_at_call 252;refine(u _).mono ?_;rintro e q ⟨rfl,rfl⟩)|(go_at_call 251;refine(y _).mono ?_;rintro e q ⟨rfl,rfl⟩))
   go_ret
   exact⟨rfl,rfl⟩
 ·obtain rfl:r=4:=by rw[j];rfl
  clear j;go_enter func299,ntmps299
  go_wp2_with (first|(go_at_call 252;refine(u _).mono ?_;rintro e q ⟨rfl,rfl⟩)|(go_at_call 251;refine(y _).mono ?_;rintro e q ⟨rfl,rfl⟩))
  go_ret
  exact⟨rfl,rfl⟩
def Zp2(p:Int)(w:World):Calls prog 300 #[.int .i32 p] w λe w'=>e=.returned (.int .i64 (ZcP p))/\Below w.heap.size w w':=by
 by_cases h:44032<=p/\p<=55203
 ·obtain⟨n,rfl⟩:∃n:Nat,p=44032+(n:Int):=⟨(p - 44032).toNat,by omega⟩
  have u:=λw=>Zlg n (by omega) w;have q:ZcP (44032+(n:Int))=if ZaD n then 6 else 2:=by
   unfold ZcP;rw[if_pos h,show((44032:Int)+n - 44032).toNat=n by omega]
  clear h;generalize cnt (ZaD n) n=k at*;generalize ZcP (44032+(n:Int))=r at*;generalize ZaD n=b at*;cases b
  ·obtain rfl:r=2:=by rw[q];rfl
   clear q;go_enter func300,ntmps300
   go_wp2_with (go_at_call 334;refine MR (u _) λC j=>?_)
   go_ret
   exact⟨rfl,j⟩
  ·obtain rfl:r=6:=by rw[q];rfl
   clear q;go_enter func300,ntmps300
   go_wp2_with (go_at_call 334;refine MR (u _) λC j=>?_)
   go_ret
   exact⟨rfl,j⟩
 ·have u:=λw=>Zrz p (by omega) w;have q:ZcP p=if 12593<=p/\p<=12686 then -2 else 1:=by unfold ZcP;rw[if_neg h]
  generalize ZcP p=r at*;clear h;by_cases y:12593<=p/\p<=12686
  ·obtain rfl:r= -2:=by rw[q,if_pos y]
   obtain⟨a0,J⟩:=y;clear q;go_enter func300,ntmps300
   go_wp2_with (go_at_call 334;refine MR (u _) λC j=>?_)
   go_ret
   exact⟨rfl,j⟩
  ·obtain rfl:r=1:=by rw[q,if_neg y]
   clear q;by_cases I:12593<=p
   ·have D:¬p<=12686:=by omega
    clear y;go_enter func300,ntmps300
    go_wp2_with (go_at_call 334;refine MR (u _) λC j=>?_)
    go_ret
    exact⟨rfl,j⟩
   ·clear y;go_enter func300,ntmps300
    go_wp2_with (go_at_call 334;refine MR (u _) λC j=>?_)
    go_ret
    exact⟨rfl,j⟩
def Zp6(c:Nat)(V:c<=6)(p:Int)(w:World):Calls prog 250 #[.int .i64 c,.int .i32 p] w λe w'=>e=.returned (.int .i64 (ZcH c p))/\Below w.heap.size w w':=by
 have I:=λw=>Zp4 p w;have c2:=λw=>Zp3 p w;have D:=λw=>Zp5 p w;have C:=λw=>Zp2 p w;have y:=λw=>Zp1 p w;have u:ZcH c p=if p<128 then Zfp p else if c=0 then Zfh p else if c<=3 then ZeH p else if c=4\/c=5 then ZcP p else ZeZ p:=rfl
 rw[u];clear u;generalize Zfp p=U at*;generalize Zfh p=O at*;generalize ZeH p=N at*;generalize ZcP p=L at*;generalize ZeZ p=J at*;by_cases h:p<128
 ·rw[if_pos h];go_enter func250,ntmps250
  go_wp2_with (go_at_call 297;refine(I _).mono ?_;rintro e j ⟨rfl,rfl⟩)
  go_ret
  exact⟨rfl,Below.refl _ _⟩
 ·rw[if_neg h];rcases(show c=0\/c=1\/c=2\/c=3\/c=4\/c=5\/c=6 by omega) with rfl|rfl|rfl|rfl|rfl|rfl|rfl
  all_goals
   go_enter func250,ntmps250
   go_wp2_with (first|(go_at_call 298;refine(c2 _).mono ?_;rintro e j ⟨rfl,rfl⟩)|(go_at_call 299;refine(D _).mono ?_;rintro e j ⟨rfl,rfl⟩)|(go_at_call 300;refine MR (C _) λj q=>?_)|(go_at_call 301;refine(y _).mono ?_;rintro e j ⟨rfl,rfl⟩))
   go_ret
   first|exact⟨rfl,Below.refl _ _⟩|exact⟨rfl,q⟩
open Go Go.RowKit Go.Maps
def Znq:Keyed prog 21:=int_keyed underlying21
def zeroW(w:World):(zeroValue 3).run prog w=.ok (.int .i64 0) w:=by kernel_rfl
def ZpA{p:Int}(h: -2147483648<=p/\p<2147483648):(Lit.int .i32 p).wf=true:=by
 simp[Lit.wf,IntKind.min,IntKind.max,IntKind.bits,IntKind.signed];omega
def Zxy{c:Int}(h: -1000<=c/\c<=1000):(Lit.int .i64 c).wf=true:=by
 simp[Lit.wf,IntKind.min,IntKind.max,IntKind.bits,IntKind.signed];omega
def MpW(w:World)(b n:Nat)(M:Int->Option Int):Prop:=∃D:DataW Unit,w.ownsMap prog 21 (plainElem prog 3) b n D/\(∀p:Int,(M p).isSome=Maps.has D (.int .i32 p))/\∀(p:Int) (c:Int),M p=some c->∀z,D.atKey (.int .i32 p) z=.lit (.int .i64 c)
def MpW.made(w:World):MpW (w.alloc (.map #[] 0)) w.heap.size 0 (λ_=>none):=⟨.map [],World.ownsMap_made _ _ _ _,λ_=>rfl,λ_ _ h=>by cases h⟩
def MpW.kept{w w':World}{b n:Nat}{M:Int->Option Int}{row:Option Nat}(h:MpW w b n M)(q:w.grownBy w' row)(j:some b≠row):MpW w' b n M:=by
 obtain⟨D,y,u⟩:=h;exact⟨D,y.kept q j,u⟩
def MpW.below{w w':World}{b n:Nat}{M:Int->Option Int}(h:MpW w b n M)(hb:Below w.heap.size w w'):MpW w' b n M:=
 h.kept (row:=none) ⟨hb.os,hb.tape,hb.output,hb.size,λk j _=>hb.block k j⟩ (by simp)
section
variable {ops:Array Oper} {rest:List Oper} {o:Oper} {a:Act} {Q:Exit->Act->World->Prop} {w:World} {b n:Nat} {M:Int->Option Int}
theorem ZnF(J:o.guard=none)(m x:Operand)(q:o.op=Op.lookup 300 m x true)(h:MpW w b n M)(C:a.eval m=.map (some b))(p:Int)(u:a.eval x=.int .i32 p)(y: -2147483648<=p/\p<2147483648)
 (hK:∀c:Int,(∀k,M p=some k->c=k)->wpList prog ops Q rest (a.put o.dst (.tuple #[.int .i64 c,.bool (M p).isSome])) w):
 wpList prog ops Q (o::rest) a w:=by
 obtain⟨D,O,N,L⟩:=h;refine wpList_lookup_own_ok_int _ J m x 300 q 21 3 .i64 Znq underlying300 underlying3 (zeroW _) b n D C O (.int .i32 p) (.int .i32 p) u (keyOf_int_mk underlying21 (ZpA y)) ?_;intro c j _;rw[<-N];refine hK c λk I=>?_;rw[L p k I] at j;simpa using j.symm
theorem mw_put(O:o.guard=none)(m x v:Operand)(u:o.op=Op.mapUpdate 300 m x v)(h:MpW w b n M)(N:a.eval m=.map (some b))(p:Int)(I:a.eval x=.int .i32 p)(L: -2147483648<=p/\p<2147483648)(c:Int)(J:a.eval v=.int .i64 c)(U: -1000<=c/\c<=1000)(hn:n<=10000000)
 (hK:∀w',MpW w' b (n+1) (λq=>if q=p then some c else M q)->w.grownBy w' (some b)->wpList prog ops Q rest (a.put o.dst undef) w'):
 wpList prog ops Q (o::rest) a w:=by
 obtain⟨D,C,Y,X⟩:=h;refine wpList_mapUpdate_own _ O m x v 300 u 21 3 Znq underlying300 _ b n D N C (by unfold maxLen;omega) (.int .i32 p) (.int .i64 c) (.int .i32 p) I J (keyOf_int_mk underlying21 (ZpA L)) (.lit (.int .i64 c)) [] (plainElem_int underlying3 (Zxy U)) ?_;intro w' W V;have y:IsMap D:=by obtain⟨Z,cl,_,_,_,rfl⟩:=C;exact⟨_,rfl⟩
 refine hK w' ⟨_,W,λq=>?_,λq k j z=>?_⟩ V
 ·show(if q=p then some c else M q).isSome=_
  by_cases e:q=p
  ·subst e;rw[if_pos rfl,has_put_same y (show WideAt.IsKeyLit (.int .i32 q) from trivial)];rfl
  ·rw[if_neg e,Y,has_put_other (by simpa using e)]
 ·have j:(if q=p then some c else M q)=some k:=j;by_cases e:q=p
  ·subst e;rw[if_pos rfl] at j;injection j with j;subst j;exact atKey_put_same y (show WideAt.IsKeyLit (.int .i32 q) from trivial) _ _
  ·rw[if_neg e] at j;rw[atKey_put_other (by simpa using e)];exact X q k j z
end
