/- Lemmas for a statement on the tops; conditions: as each says. -/
import Derived.Test.YtjilfbhkdjanhaaGreatDoorM37
import Derived.Test.YtjilfbhkdjanhaaGreatDoorM45
set_option linter.all false
set_option maxRecDepth 100000
set_option maxHeartbeats 1000000
open Go.Proofs.Tryz
namespace Go.Proofs.YtjilfbhkdjanhaaGreatDoor
open Go Go.RowKit
structure Wk (w:World):Prop where
 grd:Grd w
 st:Zls w
def Wk.below{w w':World}(h:Wk w)(hb:Below w.heap.size w w'):Wk w' where
 grd:=h.grd.below hb
 st:=λj u D=>by
  have q:=h.st j u D;have y:0<w.heap.size:=by
   simp only[World.cell?] at q;cases C:w.heap[0]? with
   |none=>rw[C] at q;cases q
   |some o=>exact(Array.getElem?_eq_some_iff.1 C).1
  exact(hb.cell (p:=⟨0,0+j,none⟩) y).trans q
def ZsI{f:Nat}(h:Ev.ToldOk (Ev.tAw f))(w:World)(hG:Ev.Gl w):Calls prog f #[] w λe w'=>e=.returned (.bool true)/\Below w.heap.size w w':=Ev.aw_run h w hG
def Aw_top(w:World)(hG:Ev.Gl w):Calls prog 4 #[] w λe w'=>e=.returned (.bool true)/\Below w.heap.size w w':=by
 have h:=ZsI Ev.aw29 w hG;go_enter func4,ntmps4
 go_wp2_with (go_at_call 12;refine h.mono ?_;clear h;rintro e q ⟨rfl,j⟩;have B1:=QQ j;clear j)
 go_ret
 exact⟨rfl,B1⟩
def Zso(T:Array Value)(hs:T.size=25)(U:T[0]?=some (.int .i64 1))(w:World)
 (h:∀wx,Below w.heap.size w wx->Calls prog 45 #[.agg T] wx (ZcZ wx)):
 Calls prog 16 #[.agg T] w (ZcZ w):=by
 unfold ZcZ at h;have j:Below w.heap.size w ((w.alloc (.cells T 72)).alloc (.cells #[.int .i64 0,.int .i64 0] 34)):=((Below.refl _ _).alloc NL _).alloc (by simp) _;have u:=QQ j;have N:=h _ j;have bx:Bx ((w.alloc (.cells T 72)).alloc (.cells #[.int .i64 0,.int .i64 0] 34)) w.heap.size T 72:=(Bx.new w _ _).alloc _;have c0:((w.alloc (.cells T 72)).alloc (.cells #[.int .i64 0,.int .i64 0] 34)).cell? ⟨w.heap.size,0,none⟩=some (.int .i64 1):=by rw[bx.cell 0,U]
 clear h j;go_enter func16,ntmps16
 go_wp2_with (first
  |(refine wpList_load_row rfl 72 _ rfl w.heap.size rfl 72 T (0,0) _ bx underlying72 rfl (by rw[hs];kernel_rfl) ?_)
  |(go_at_call 45;refine N.mono ?_;clear N;rintro e O ⟨⟨x,y,rfl,q⟩,hb⟩;have D:=QQ q;clear q;have C:=F2 hb;rw[World.size_alloc] at C;have W:=QQ C;have X:=QQ (u.trans (hb.mono u.size));obtain⟨Z,Y,f0,f1⟩:=Zce C;clear hb C))
 refine bodyPost_ret (v:=.tuple #[.string ⟨#[]⟩,.agg #[.int .i64 x,.int .i64 y]]) ?_ rfl ⟨⟨x,y,rfl,D⟩,?_⟩
 ·have V:Bx O (w.heap.size+1) #[.int .i64 0,.int .i64 0] 34:=W.out;have L:=(V.put 0 (.int .i64 x)).put 1 (.int .i64 y);have J:=L.cell 0;have I:=L.cell 1;simp only[Array.getElem?_setIfInBounds] at J I;simp[results,results16,go_sem,J,I]
 ·exact(X.setCell (Nat.le_succ _) _).setCell (Nat.le_succ _) _
def Zsn(T:Array Value)(hs:T.size=25)(j:T[0]?=some (.int .i64 1))(r:Option (List UInt8))(w:World)
 (h:∀wx,Below w.heap.size w wx->Calls prog 45 #[.agg T] wx (ZN wx r)):Calls prog 16 #[.agg T] w (ZN w r):=by
 cases r with
 |none=>exact(Zso T hs j w λwx hb=>(h wx hb).mono λe w' h=>⟨h.2,h.1⟩).mono λe w' h=>ZN.bad h
 |some s=>exact(Zsp T hs j (B s) 0 0 w λwx hb=>(h wx hb).mono λe w' h=>⟨h.2,h.1⟩).mono λe w' h=>⟨h.2,h.1⟩
def Zud(v:Nat):ZdH (Zbh v):=by
 unfold Zbh;by_cases q:v=2
 ·simp only[if_pos q];exact Zfe 3
 ·simp only[if_neg q];by_cases j:v=3
  ·simp only[if_pos j];exact Zfe 4
  ·simp only[if_neg j];exact Zm2
def size_e{v:Nat}{s:InS}(h:(Zbh v s).2.e=0):s.e=0:=by
 unfold Zbh at h
 (repeat' split at h)<;>first|exact ZfW h|exact Zj2 h
def size_n{v:Nat}{s:InS}(h:(Zbh v s).2.e=0):s.n+3<=(Zbh v s).2.n:=by
 unfold Zbh at h⊢;by_cases q:v=2
 ·rw[if_pos q] at h⊢;have:=ZfX s 3 h;omega
 ·rw[if_neg q] at h⊢;by_cases j:v=3
  ·rw[if_pos j] at h⊢;have:=ZfX s 4 h;omega
  ·rw[if_neg j] at h⊢;have:=ZoS s h;omega
def Zhq(s:InS):s.rest.1.length<=s.t.length:=by
 unfold InS.rest InS.take;split
 ·simp
 ·split
  ·simp
  ·simp only[List.length_take,List.length_drop];omega
def Zf9(s:InS)(k:Nat):(s.take k).1.length<=s.t.length:=by
 unfold InS.take;split
 ·simp
 ·split
  ·simp
  ·simp only[List.length_take,List.length_drop];omega
def ZhN(s:InS):s.safe.2.t=s.t:=by
 unfold InS.safe;simp only;split
 ·rw[Zds];exact Zbx ..
 ·exact Zbx ..
def ZtW{v:Nat}{f j:Fr}{d:List UInt8}{k:Nat}(h:Zbn v f d k=.ok j):j.id=f.id/\j.body.length<=d.length:=by
 cases u:ZQ v f.fm with
 |true=>
  unfold Zbn at h;rw[u,if_pos rfl] at h;injection h with h
  subst h;exact⟨rfl,Nat.le_refl _⟩
 |false=>
  rw[ZmM v f d k u] at h;have q:(fpF v f d k).2.t=d:=by
   unfold fpF;split
   ·exact Zbx ..
   ·rfl
  have D:(fqF v f d k).2.t=d:=by
   unfold fqF;split
   ·rw[ZhN];exact q
   ·exact q
  have hb:(fdF v f d k).length<=d.length:=by
   have:=Zhq (fqF v f d k).2;rw[D] at this;unfold fdF;split
   ·exact Nat.le_trans (Ze7 _ _) this
   ·exact this
  by_cases C:(fqF v f d k).2.e≠0
  ·rw[if_pos C] at h;cases h
  ·rw[if_neg C] at h;by_cases y:ZaY v f.fm=true/\(fqF v f d k).1≠(fdF v f d k).length
   ·rw[if_pos y] at h;cases h
   ·rw[if_neg y] at h;injection h with h
    subst h;exact⟨rfl,hb⟩
def ZuO(v:Nat):Zs v<=4:=by
 unfold Zs
 (repeat' split)<;>omega
def pw1(v:Nat)(s:InS):InS:=if Zax (s.take (Zs v)).1<(s.take (Zs v)).1.length then(s.take (Zs v)).2.fail 1 (s.at_+Zax (s.take (Zs v)).1) else(s.take (Zs v)).2
def pm1(v:Nat)(s:InS):Nat×InS:=Zbh v (pw1 v s)
def pg1(v:Nat)(s:InS):Nat×InS:=if 2<v then(pm1 v s).2.big 2 else(0,(pm1 v s).2)
def pd1(v:Nat)(s:InS):List UInt8×InS:=(pg1 v s).2.take (pm1 v s).1
def ZvD(v:Nat)(s:InS)(j:Bool):Zbg v s j=if Zs v=0\/s.e≠0\/s.left=0\/s.peek 1=[0] then(none,s) else
 if(pd1 v s).2.e≠0 then(none,(pd1 v s).2) else
 match Zbn v ⟨(s.take (Zs v)).1,UInt8.ofNat ((pg1 v s).1 / 256),UInt8.ofNat (pg1 v s).1|||(if v=4/\j=true then 2 else 0),0,[],s.at_⟩ (pd1 v s).1 (pg1 v s).2.at_ with
 | .error x=>(none,(pd1 v s).2.fail x.1 x.2)
 | .ok f=>(some f,(pd1 v s).2):=rfl
def ZvG{v:Nat}{s s':InS}{U:Bool}{f:Fr}(h:Zbg v s U=(some f,s'))(hn:s.n<=s.t.length):s'.t=s.t/\s.n+6<=s'.n/\s'.n<=s'.t.length/\f.id.length<=4/\f.body.length<=s.t.length:=by
 rw[ZvD] at h;by_cases h0:Zs v=0\/s.e≠0\/s.left=0\/s.peek 1=[0]
 ·rw[if_pos h0] at h;cases h
 rw[if_neg h0] at h;by_cases hd:(pd1 v s).2.e≠0
 ·rw[if_pos hd] at h;cases h
 rw[if_neg hd] at h;have hd:=Classical.not_not.1 hd;have h0:=(not_or.1 h0).1;cases D:Zbn v ⟨(s.take (Zs v)).1,UInt8.ofNat ((pg1 v s).1 / 256),UInt8.ofNat (pg1 v s).1|||(if v=4/\U=true then 2 else 0),0,[],s.at_⟩ (pd1 v s).1 (pg1 v s).2.at_ with
 |error x=>rw[D] at h;cases h
 |ok f2=>
  rw[D] at h;obtain⟨hid,ad⟩:=ZtW D;simp only[Prod.mk.injEq,Option.some.injEq] at h;obtain⟨rfl,rfl⟩:=h;clear D;have hl:=Zd8 s (Zs v);have ab:=ZuO v;have aa:3<=Zs v:=by
   unfold Zs at h0⊢
   (repeat' split)<;>simp_all
  have j:(pg1 v s).2.e=0:=ZhT hd;have L:(pm1 v s).2.e=0:=by
   by_cases y:2<v
   ·unfold pg1 at j;rw[if_pos y] at j;exact ZfW j
   ·unfold pg1 at j;rw[if_neg y] at j;exact j
  have e3:(pw1 v s).e=0:=size_e L;obtain⟨Z,W⟩:=Zdu (by decide) e3;have u:pw1 v s=(s.take (Zs v)).2:=by unfold pw1;rw[if_neg Z]
  obtain⟨a1,a2,a3,a4,_⟩:=Zf6 (Zs v) s hn W;have n1:=take_n _ _ W;obtain⟨b1,X,b3,b4,_⟩:=Zud v (pw1 v s) (by rw[u];exact a2) L;have Y:(pw1 v s).n+3<=(pm1 v s).2.n:=size_n L;have hg:(pg1 v s).2.n<=(pg1 v s).2.t.length/\(pm1 v s).2.n<=(pg1 v s).2.n/\(pg1 v s).2.t=(pm1 v s).2.t:=by
   by_cases y:2<v
   ·have J:pg1 v s=(pm1 v s).2.big 2:=by unfold pg1;rw[if_pos y]
    rw[J] at j⊢;obtain⟨c1,c2,c3,c4,_⟩:=Zfe 2 (pm1 v s).2 X j;exact⟨c2,c3,c4⟩
   ·have J:pg1 v s=(0,(pm1 v s).2):=by unfold pg1;rw[if_neg y]
    rw[J];exact⟨X,Nat.le_refl _,rfl⟩
  obtain⟨g1,g2,V⟩:=hg;obtain⟨d1,d2,d3,d4,_⟩:=Zf6 (pm1 v s).1 (pg1 v s).2 g1 hd;have n3:(pd1 v s).2.n=(pg1 v s).2.n+(pm1 v s).1:=take_n _ _ hd;have I:(pd1 v s).1.length<=(pg1 v s).2.t.length:=Zf9 _ _;have C:(s.take (Zs v)).2.t=s.t:=a4;have q:(pm1 v s).2.t=(pw1 v s).t:=b4;have N:(pd1 v s).2.t=(pg1 v s).2.t:=d4;have O:(pd1 v s).2.n<=(pd1 v s).2.t.length:=d2;rw[u] at q Y;refine⟨N.trans (V.trans (q.trans C)),by omega,O,by rw[hid];show(s.take (Zs v)).1.length<=4;omega,?_⟩;rw[V,q,C] at I;omega
def Znv(v:Nat)(j:Bool):∀(k:Nat) (s:InS),s.n<=s.t.length->(∀f∈(Z7 v j k s).1,f.id.length<=4/\f.body.length<=s.t.length)/\6*(Z7 v j k s).1.length+s.n<=s.t.length/\(Z7 v j k s).1.length<=k
 |0,s,hn=>by
  unfold Z7;split<;>simp<;>omega
 |k+1,s,hn=>by
  unfold Z7;split
  ·simp;omega
  ·next f s' h=>
   obtain⟨J,N,I,D,C⟩:=ZvG h hn;obtain⟨u,y,L⟩:=Znv v j k s' I;simp only[List.length_cons];rw[J] at u y;refine⟨λg q=>?_,by omega,by omega⟩;rcases List.mem_cons.1 q with rfl|q
   ·exact⟨D,C⟩
   ·exact u g q
def Zt4(v:Nat)(j:Bool)(s:InS):(Zcx v j s).1=(Z7 v j 4096 s).1:=by
 unfold Zcx;simp only;split<;>rfl
def Zhh(s:InS)(e a:Nat):(s.fail e a).n=s.n:=by
 unfold InS.fail;split<;>rfl
def Zfw(s:InS)(k:Nat)(h:s.n<=s.t.length):(s.take k).2.n<=(s.take k).2.t.length:=by
 unfold InS.take;split
 ·exact h
 ·split
  ·unfold InS.short;rw[Zhh,Zds];exact h
  ·simp only;omega
def ZoR(s:InS)(h:s.n<=s.t.length):s.safe.2.n<=s.safe.2.t.length:=by
 unfold InS.safe;simp only;split
 ·rw[Zhh,Zds];exact Zfw s 4 h
 ·exact Zfw s 4 h
def ZwB(v:Nat)(fl:UInt8)(s:InS)(h:s.n<=s.t.length):(Zbu v fl s).n<=(Zbu v fl s).t.length/\(Zbu v fl s).t=s.t:=by
 unfold Zbu;split
 ·exact⟨h,rfl⟩
 ·split
  ·exact⟨Zfw _ _ (Zfw _ _ h),by rw[Zbx];exact Zbx ..⟩
  ·have hs:=ZoR s h;have q:=ZhN s;have j:(if s.safe.1<6 then s.safe.2.fail 1 s.at_ else s.safe.2).n<=(if s.safe.1<6 then s.safe.2.fail 1 s.at_ else s.safe.2).t.length/\(if s.safe.1<6 then s.safe.2.fail 1 s.at_ else s.safe.2).t=s.t:=by
    split
    ·rw[Zhh,Zds];exact⟨hs,q⟩
    ·exact⟨hs,q⟩
   simp only;generalize (if s.safe.1<6 then s.safe.2.fail 1 s.at_ else s.safe.2)=z at*;split
   ·split
    ·exact j
    ·unfold InS.short;rw[Zhh,Zds];exact j
   ·exact⟨Zfw _ _ j.1,by rw[Zbx];exact j.2⟩
def qtH(j:List UInt8):(Nat×UInt8×UInt8)×InS:=ZW ⟨j,0,0,0,0⟩
def qtB(j:List UInt8):List UInt8×InS:=(qtH j).2.safe.2.take (qtH j).2.safe.1
def qtW(j:List UInt8):List UInt8:=if ZcV (qtH j).1.1 (qtH j).1.2.2 then Zae false (qtB j).1 else(qtB j).1
def qtL(j:List UInt8):List Fr×InS:=Zcx (qtH j).1.1 (ZJ (qtH j).1.2.2) (Zbu (qtH j).1.1 (qtH j).1.2.2 ⟨qtW j,0,10,0,0⟩)
def qtR(j:List UInt8):InS:=if ZbZ (qtH j).1.1 (qtH j).1.2.2 then(((qtB j).2.want ZaB).2.want ((j.take 10).drop 3)).2 else(qtB j).2
def Zoa(j:List UInt8):ZS j=if j.take 3≠Zu then .ok (none,j) else
 if(qtB j).2.e≠0 then .error ((qtB j).2.e,(qtB j).2.a) else
 if(qtL j).2.e≠0 then .error ((qtL j).2.e,(qtL j).2.a) else
 if(qtR j).e≠0 then .error ((qtR j).e,(qtR j).a) else
 .ok (some ⟨(qtH j).1.1,(qtH j).1.2.1,(qtH j).1.2.2&&& ~~~0x40,(qtL j).1⟩,(qtR j).rest.1):=by
 unfold ZS qtR qtL qtW qtB qtH;rfl
def ZvH{j:List UInt8}{t:Tg}{q:List UInt8}(h:ZS j=.ok (some t,q)):(qtB j).2.e=0/\(qtR j).e=0/\t.fs=(qtL j).1/\t.v=(qtH j).1.1/\q=(qtR j).rest.1:=by
 have e:=Zoa j;rw[h] at e;clear h;generalize qtB j=b at*;generalize qtL j=l at*;generalize qtR j=r at*;generalize qtH j=h at*;by_cases C:j.take 3≠Zu
 ·rw[if_pos C] at e;simp at e
 rw[if_neg C] at e;by_cases hb:b.2.e≠0
 ·rw[if_pos hb] at e;simp at e
 rw[if_neg hb] at e;by_cases y:l.2.e≠0
 ·rw[if_pos y] at e;simp at e
 rw[if_neg y] at e;by_cases u:r.e≠0
 ·rw[if_pos u] at e;simp at e
 rw[if_neg u] at e;simp only[Except.ok.injEq,Prod.mk.injEq,Option.some.injEq] at e;obtain⟨rfl,rfl⟩:=e;exact⟨Classical.not_not.1 hb,Classical.not_not.1 u,rfl,rfl,rfl⟩
def Zun{s:InS}(j:(ZW s).2.e=0):(ZW s).1.1≠0:=by
 intro q;unfold ZW at j q;simp only at j q;generalize (((s.want Zu).2.big 1).2.big 1).2.big 1=C at*;by_cases u:C.2.e≠0
 ·rw[if_pos u] at j;exact u j
 ·rw[if_neg u] at j q;obtain⟨_,j⟩:=Zdu (by decide) j;obtain⟨_,j⟩:=Zdu (by decide) j;obtain⟨_,j⟩:=Zdu (by decide) j;obtain⟨h0,j⟩:=Zdu (by decide) j;simp only at q;rw[q] at h0;exact h0 rfl
def qt_in{j:List UInt8}(hb:(qtB j).2.e=0):(qtH j).1.1≠0/\(qtB j).2.n<=(qtB j).2.t.length/\(qtB j).2.t=j/\(qtB j).1.length<=j.length:=by
 have hs:(qtH j).2.safe.2.e=0:=ZhT hb;have C:(qtH j).2.e=0:=Zj2 hs;obtain⟨_,D,_,u,_⟩:=Zm8 ⟨j,0,0,0,0⟩ (Nat.zero_le _) C;have y:=Zun (s:=⟨j,0,0,0,0⟩) C;change (qtH j).2.t=j at u
 change (qtH j).2.n<=(qtH j).2.t.length at D
 change (qtH j).1.1≠0 at y
 unfold qtB;generalize qtH j=H at*;have q:=Zf9 H.2.safe.2 H.2.safe.1;rw[ZhN,u] at q;exact⟨y,Zfw _ _ (ZoR _ D),by rw[Zbx,ZhN,u],q⟩
def ZjF{j:List UInt8}{t:Tg}{q:List UInt8}(h:ZS j=.ok (some t,q)):((∀f∈t.fs,f.id.length<=4/\f.body.length<=j.length)/\6*t.fs.length<=j.length/\t.fs.length<=4096)/\q.length<=j.length/\t.v≠0:=by
 obtain⟨hb,y,Y,X,V⟩:=ZvH h;obtain⟨hz,I,O,ad⟩:=qt_in hb;rw[Y,X,V];clear h Y X V;have J:(qtW j).length<=j.length:=by
  have hd:=Ze7 false (qtB j).1;unfold qtW;split<;>omega
 refine⟨?_,?_,hz⟩
 ·unfold qtL;rw[Zt4];generalize qtH j=H at*;generalize qtW j=W at*;obtain⟨k1,k2⟩:=ZwB H.1.1 H.1.2.2 ⟨W,0,10,0,0⟩ (Nat.zero_le _);obtain⟨C,N,l3⟩:=Znv H.1.1 (ZJ H.1.2.2) 4096 _ k1;rw[k2] at C N;generalize Z7 H.1.1 (ZJ H.1.2.2) 4096 (Zbu H.1.1 H.1.2.2 ⟨W,0,10,0,0⟩)=L at*;refine⟨λf U=>⟨(C f U).1,Nat.le_trans (C f U).2 J⟩,?_,l3⟩;change 6*L.1.length+_<=W.length at N
  omega
 ·refine Nat.le_trans (Zhq _) ?_;unfold qtR at y⊢;generalize qtH j=H at*;generalize qtB j=b at*;by_cases u:ZbZ H.1.1 H.1.2.2=true
  ·rw[if_pos u] at y⊢;have D:=Zpy y;obtain⟨_,d2,_,d4,_⟩:=Zf7 ZaB _ I D;obtain⟨_,_,_,Z,_⟩:=Zf7 ((j.take 10).drop 3) _ d2 y;simp only at d4 Z;rw[Z,d4,O];exact Nat.le_refl _
  ·rw[if_neg u,O];exact Nat.le_refl _
def ZuU(l:List UInt8)(ps:List Int)(h:Zck l=.inl ps):(Zd ps).length<=4*l.length:=by
 unfold Zck at h;split at h
 ·injection h with h;subst h;simp[Zb0]
 ·split at h
  ·cases h
  ·have hd:=λc (u:c=8\/c=9)=>Ze3 (c:=c) (l.drop 2);cases j:ZbO (Zai l) (l.drop 2) with
   |inr n=>rw[j] at h;cases h
   |inl q=>
    rw[j] at h;injection h with h
    subst h;have:ZZ (if Zai l then 9 else 8) (l.drop 2)=.inl q:=by
     cases hb:Zai l<;>rw[hb] at j<;>exact j
    have:=Ze3 _ _ this;rw[List.length_drop] at this;omega
def Zxu(fb:Nat)(det:Bool)(enc:Nat)(l:List UInt8)(t:List UInt8×Nat)(h:wdF fb det enc l=.ok t):t.1.length<=4*l.length:=by
 have key:∀(set:Nat) (d:Zay),(∀ps,d=.inl ps->(Zd ps).length<=4*l.length)->wdR set d=.ok t->t.1.length<=4*l.length:=by
  intro set d hd q;cases d with
  |inr n=>cases q
  |inl ps=>injection q with q;subst q;exact hd ps rfl
 unfold wdF at h;split at h
 ·exact key _ _ (λps j=>Ze3 _ _ j) h
 ·split at h
  ·exact key _ _ (λps j=>ZuU _ _ j) h
  ·split at h
   ·exact key _ _ (λps j=>Ze3 (c:=9) _ _ j) h
   ·exact key _ _ (λps j=>Ze3 (c:=7) _ _ j) h
def Zti(w:Nat)(l:List UInt8)(q:List UInt8×List UInt8)(h:Ze1 w l=some q):q.1.length<=l.length:=by
 have D:∀(l:List UInt8) (q:List UInt8×List UInt8),ZaU l=some q->q.1.length<=l.length:=by
  intro l;induction l with
  |nil=>intro q h;cases h
  |cons x r u=>
   intro q h;rw[ZaU] at h;split at h
   ·injection h with h;subst h;simp
   ·split at h
    ·cases h
    ·next p hp=>injection h with h;subst h;have:=u p hp;simp only[List.length_cons];omega
 have C:∀(n:Nat) (l:List UInt8) (q:List UInt8×List UInt8),l.length<=n->Z4 l=some q->q.1.length<=l.length:=by
  intro n;induction n with
  |zero=>intro l q j h;cases l with|nil=>simp[Z4] at h|cons x r=>simp at j
  |succ n u=>
   intro l q j h
   match l,j,h with
   |[],_,h=>simp[Z4] at h
   |[x],_,h=>simp[Z4] at h
   |x::y::r,j,h=>
    rw[Z4] at h;split at h
    ·injection h with h;subst h;simp
    ·split at h
     ·cases h
     ·next p hp=>injection h with h;subst h;have:=u r p (by simp only[List.length_cons] at j;omega) hp;simp only[List.length_cons];omega
 unfold Ze1 at h;split at h
 ·exact D l q h
 ·exact C _ l q NL h
def Zkm(s:InS)(w:Nat):(s.until w).1.length<=s.t.length/\(s.until w).2.t=s.t:=by
 unfold InS.until;split
 ·exact⟨by simp,rfl⟩
 ·split
  ·exact⟨by simp,Zds ..⟩
  ·next q hq=>
   have:=Zti _ _ _ hq;rw[List.length_drop] at this;exact⟨by simp only;omega,rfl⟩
def ZpD{j:List UInt8->Except (Nat×Nat) (List UInt8×Nat)}(q:∀l t,j l=.ok t->t.1.length<=4*l.length)(l:Lt)(b:List UInt8×InS)(k n:Nat)(hb:b.1.length<=n):(ZaN j l b k).1.text.length<=4*n/\(ZaN j l b k).2.t=b.2.t:=by
 unfold ZaN;split
 ·next t ht=>exact⟨by have:=q _ _ ht;simp only;omega,rfl⟩
 ·exact⟨by simp,Zds ..⟩
def ZvL(enc:Nat){j:List UInt8->Except (Nat×Nat) (List UInt8×Nat)}(q:∀l t,j l=.ok t->t.1.length<=4*l.length)(s:InS)(l:Lt):(Z2 enc j s l).1.text.length<=4*s.t.length/\(Z2 enc j s l).2.t=s.t:=by
 unfold Z2;cases l with
 |lang=>exact⟨by have:=Zf9 s 3;simp only;omega,Zbx ..⟩
 |fmt=>exact⟨by have:=Zf9 s 3;simp only;omega,Zbx ..⟩
 |mime=>exact⟨by have:=(Zkm s 1).1;simp only;omega,(Zkm s 1).2⟩
 |kind=>exact⟨by have:=Zf9 s 1;simp only;omega,Zbx ..⟩
 |desc=>
  obtain⟨a,b⟩:=Zkm s (Zcd enc);obtain⟨c,d⟩:=ZpD q .desc (s.until (Zcd enc)) s.at_ _ a;exact⟨c,d.trans b⟩
 |text=>
  obtain⟨c,d⟩:=ZpD q .text s.rest s.at_ _ (Zhq s);exact⟨c,d.trans (Zbx ..)⟩
 |data=>exact⟨by have:=Zhq s;simp only;omega,Zbx ..⟩
def Zol(enc:Nat){u:List UInt8->Except (Nat×Nat) (List UInt8×Nat)}(C:∀l t,u l=.ok t->t.1.length<=4*l.length):∀(ls:List Lt) (s:InS) (q:List Pt×InS),Za0 enc u ls s=.ok q->q.1.length=ls.length/\∀p∈q.1,p.text.length<=4*s.t.length
 |[],s,q,h=>by unfold Za0 at h;injection h with h;subst h;simp
 |l::ls,s,q,h=>by
  unfold Za0 at h;simp only at h;split at h
  ·cases h
  ·split at h
   ·cases h
   ·next q2 h2=>
    injection h with h
    subst h;obtain⟨J,y⟩:=Zol enc C ls _ q2 h2;obtain⟨I,D⟩:=ZvL enc C s l;rw[D] at y;refine⟨by simp only[List.length_cons];omega,λp j=>?_⟩;rcases List.mem_cons.1 j with rfl|j
    ·exact I
    ·exact y p j
def ZuK(v:Nat)(id:List UInt8):(Zg v id).length<=4:=by
 unfold Zg
 (repeat' split)<;>decide
def ZtU{fb:Nat}{det:Bool}{v:Nat}{id body:List UInt8}{l:List Pt}(h:ZbE (wdF fb det) v id body=.ok l)(h0:Zg v id≠[]):l.length<=4/\∀p∈l,p.text.length<=4*body.length:=by
 unfold ZbE at h;rw[if_neg h0] at h;simp only at h;split at h
 ·cases h
 ·split at h
  ·cases h
  ·split at h
   ·cases h
   ·next q hq=>
    injection h with h
    subst h;obtain⟨a,b⟩:=Zol _ (Zxu fb det _) _ _ _ hq;have u:=ZuK v id;have j:((⟨body,0,0,0,0⟩:InS).big 1).2.t=body:=Zbx ..;rw[j] at b;exact⟨by omega,b⟩
def Zok(enc:Nat)(j:List UInt8->Except (Nat×Nat) (List UInt8×Nat)):∀(ls:List Lt) (s:InS) (x:Nat×Nat),Za0 enc j ls s=.error x->x.1≠0
 |[],s,x,h=>by unfold Za0 at h;cases h
 |l::ls,s,x,h=>by
  unfold Za0 at h;simp only at h;split at h
  ·next he=>injection h with h;subst h;exact he
  ·split at h
   ·next e he=>injection h with h;subst h;exact Zok enc j ls _ _ he
   ·cases h
def ZtT{fb:Nat}{det:Bool}{v:Nat}{id body:List UInt8}{x:Nat×Nat}(h:ZbE (wdF fb det) v id body=.error x):x.1≠0:=by
 unfold ZbE at h;split at h
 ·cases h
 ·simp only at h;split at h
  ·next he=>injection h with h;subst h;exact he
  ·split at h
   ·injection h with h;subst h;decide
   ·split at h
    ·next e he=>injection h with h;subst h;exact Zok _ _ _ _ _ he
    ·cases h
structure ItC (x:It):Prop where
 id:x.f.id.length<=4
 body:x.f.body.length<=1200
 n:x.ps.length<=4
 text:∀p∈x.ps,p.text.length<=4800
def ZuB{fb:Nat}{det:Bool}{v:Nat}{f:Fr}{it:It}(h:Zcj (wdF fb det) v f=some it)(j:f.id.length<=4)(hb:f.body.length<=1200):ItC it:=by
 unfold Zcj at h;split at h
 ·injection h with h;subst h
  exact⟨j,hb,by simp,by simp⟩
 ·next h0=>
  split at h
  ·cases h
  ·split at h
   ·cases h
   ·next l hl=>
    injection h with h
    subst h;obtain⟨a,b⟩:=ZtU hl h0;refine⟨j,by simp,by rw[List.length_map];exact a,λp y=>?_⟩;obtain⟨q,u,rfl⟩:=List.mem_map.1 y;have:=b q u;show q.text.length<=4800
    omega
def ZxA{v:Nat}{x:It}{f:Fr}(hb:ItC x)(h:ZaI v x.f x.ps=some f):f.id.length<=4/\f.body.length<=80000:=by
 refine⟨by rw[ZpB h];exact hb.id,?_⟩;unfold ZaI at h;have q:=Zot (Zbe v) 4800 (Zg v x.f.id) x.ps hb.text;have hn:=hb.n;have u:(4*4800+4)*x.ps.length<=(4*4800+4)*4:=Nat.mul_le_mul_left _ hn;have j:=hb.body
 (repeat' split at h)<;>first
  |(cases h;done)
  |(injection h with h;rw[<-h];first|(simp only[List.length_cons];omega)|omega)
def ZmX{v:Nat}{j:List It}(hb:∀x∈j,ItC x):∀f∈Za8 v j,f.id.length<=4/\f.body.length<=80000:=by
 intro f y;obtain⟨x,q,rfl⟩:=List.mem_map.1 y;cases u:ZaI v x.f x.ps with
 |none=>exact⟨(hb x q).id,Nat.le_trans (hb x q).body (by decide)⟩
 |some g=>exact ZxA (hb x q) u
def ZoA{v:Nat}{f:Fr}(h:f.id.length<=4/\f.body.length<=80000):(ZD v f).length<=160005/\(ZM v f).length<=160100:=by
 have y:=Zuy v f;have j:∀n,(ZbM v n).length<=4:=by
  intro n;unfold ZbM;split
  ·rw[ZfV];omega
  ·split
   ·rw[ZfV];omega
   ·simp[Zaq]
 have u:(ZdR v f).length<=2:=by unfold ZdR;split<;>simp
 have q:=j (ZD v f).length;refine⟨by omega,?_⟩;simp only[ZM,List.length_append];omega
def ZlL{v:Nat}:∀fs:List Fr,(∀f∈fs,f.id.length<=4/\f.body.length<=80000)->((fs.map (ZM v)).flatten).length<=160100*fs.length
 |[],_=>by simp
 |f::fs,h=>by
  have q:=ZlL (v:=v) fs λg j=>h g (List.mem_cons_of_mem _ j);have:=(ZoA (v:=v) (h f (List.mem_cons_self ..))).2;rw[List.map_cons,List.flatten_cons,List.length_append,List.length_cons,Nat.mul_succ];omega
def Zl1{v:Nat}{rev fl:UInt8}{fs:List Fr}(h:∀f∈fs,f.id.length<=4/\f.body.length<=80000)(hn:fs.length<=200):((fs.map (ZM v)).flatten).length<=32020000/\(ZaS ⟨v,rev,fl,fs⟩).length<=64040000:=by
 have u:=ZlL (v:=v) fs h;have q:=Zl0 v rev fl fs;have j:160100*fs.length<=160100*200:=Nat.mul_le_mul_left _ hn;omega
def Zoy{v:Nat}{rev fl:UInt8}{fs:List Fr}(h:∀f∈fs,f.id.length<=4/\f.body.length<=80000)(hn:fs.length<=200):(Zd3 ⟨v,rev,fl,fs⟩).length<=64050000:=by
 have q:=(Zl1 (v:=v) (rev:=rev) (fl:=fl) h hn).2;have j:(ZjX ⟨v,rev,fl,fs⟩).length=7:=rfl;unfold Zd3;simp only[List.length_append,j];split<;>simp only[List.length_append,j,List.length_nil,Zu,ZaB,List.length_cons]<;>omega
def ZvT{v:Int}{rev fl:UInt8}{q:List It}{j s:List UInt8}(h:ZaG v rev fl q j=some s):∃a,s=a++j:=by
 unfold ZaG at h;split at h
 ·split at h
  ·cases h
  ·injection h with h;exact⟨[],h.symm⟩
 ·split at h
  ·cases h
  ·obtain⟨a,_,e⟩:=Option.map_eq_some_iff.1 h;exact⟨a,e.symm⟩
def ZoD{v:Int}{rev fl:UInt8}{q:List It}{j s:List UInt8}(h:ZaG v rev fl q j=some s)(hb:∀x∈q,ItC x)(hn:q.length<=200):s.length<=64050000+j.length:=by
 unfold ZaG at h;split at h
 ·split at h
  ·cases h
  ·injection h with h;subst h;omega
 ·split at h
  ·cases h
  ·obtain⟨a,u,e⟩:=Option.map_eq_some_iff.1 h;unfold prR at u;split at u
   ·cases u
   ·injection u with u
    have:=Zoy (v:=v.toNat) (rev:=rev) (fl:=fl) (ZmX (v:=v.toNat) hb) (by unfold Za8;rw[List.length_map];exact hn);subst u e;rw[List.length_append];omega
def ZvU{v:Int}{rev fl:UInt8}{u:List It}{j s:List UInt8}(h:ZaG v rev fl u j=some s)(q:List UInt8)(C:v=0->¬(j++q).take 3=Zu):ZaG v rev fl u (j++q)=some (s++q):=by
 unfold ZaG at h⊢;by_cases y:v=0
 ·rw[if_pos y] at h⊢;split at h
  ·cases h
  ·next hc=>
   injection h with h
   simp only[not_or] at hc;rw[if_neg (by simp only[not_or];exact⟨hc.1,hc.2.1,hc.2.2.1,C y⟩),<-h]
 ·rw[if_neg y] at h⊢;split at h
  ·cases h
  ·next hc=>
   rw[if_neg hc];obtain⟨a,D,e⟩:=Option.map_eq_some_iff.1 h;rw[D,<-e,Option.map_some,List.append_assoc]
def Zrt(v:Int)(rev fl:UInt8)(xs:List (It×Value))(A:Option Addr)(c:Nat)(j:List UInt8)(w:World)(T:Array Value)
 (U:T[1]?=some (.int .i64 v)) (O:T[2]?=some (.int .u8 rev.toNat)) (N:T[3]?=some (.int .u8 fl.toNat)) (L:T[4]?=some (.slice A xs.length c)) (J:T[5]?=some (.string (B j)))
 (hr:RdN 7 itV w w.heap.size A xs) (V:∀x∈xs,∃A c,x.2=.slice A x.1.ps.length c/\RdN 4 piL w w.heap.size A x.1.ps) (hn:xs.length<=200)
 (hb:∀x∈xs,ItC x.1) (hG:Grd w) (ab:j.length<=1000000):
 Calls prog 45 #[.agg T] w (ZN w (ZaG v rev fl (xs.map (·.1)) j)):=by
 by_cases Z:v=0
 ·subst Z;unfold ZaG;rw[if_pos rfl];by_cases q:xs=[]
  ·subst q;by_cases C:rev≠0\/fl≠0
   ·rw[if_pos (by rcases C with h|h;exact .inr (.inl h);exact .inr (.inr (.inl h)))];exact Zru rev fl A c j w T U O N L J C
   ·obtain⟨Y,X⟩:=not_or.1 C;have Y:=Classical.not_not.1 Y;have X:=Classical.not_not.1 X;subst Y X;have:=Zrx A c j (by omega) w T U O N L J;by_cases u:j.take 3=Zu
    ·rw[if_pos u] at this;rw[if_pos (.inr (.inr (.inr u)))];exact this
    ·rw[if_neg u] at this;rw[if_neg (by simp[u])];exact this
  ·rw[if_pos (.inl (by simpa using q))];exact Zrv rev fl A xs.length c j w T U O N L J (List.length_pos_iff.2 q)
 ·have W:∀y∈xs.map (·.1),ItC y:=λy hy=>by
   obtain⟨x,q,rfl⟩:=List.mem_map.1 hy;exact hb x q
  have D:=ZmX (v:=v.toNat) W;have I:(Za8 v.toNat (xs.map (·.1))).length<=200:=by unfold Za8;rw[List.length_map,List.length_map];exact hn
  have ah:=(Zl1 (v:=v.toNat) (rev:=rev) (fl:=fl) D I).1;have ad:=Zoy (v:=v.toNat) (rev:=rev) (fl:=fl) D I;exact Zrw v Z rev fl xs A c j w T U O N L J hr V (by omega) (λx q=>⟨Nat.le_trans (hb x q).id (by decide),Nat.le_trans (hb x q).n (by decide),λp hp=>Nat.le_trans ((hb x q).text p hp) (by decide)⟩) hG
   (λ_ f hf=>Nat.le_trans (ZoA (v:=2) (D f hf)).1 (by decide)) (by omega) (by omega) (by omega)
noncomputable def Zbr(j:Nat->List UInt8->Except (Nat×Nat) (List UInt8×Nat))(v:Nat):List Fr->List It
 |[]=>[]
 |f::r=>match Zcj j v f with|none=>[]|some it=>it::Zbr j v r
def Zoh(j:Nat->List UInt8->Except (Nat×Nat) (List UInt8×Nat))(v:Nat):∀fs:List Fr,(Zbr j v fs).length<=fs.length/\(∀(k:Nat) (f:Fr) (it:It),fs[k]?=some f->(Zbr j v fs)[k]?=some it->Zcj j v f=some it)/\∀f,fs[(Zbr j v fs).length]?=some f->Zcj j v f=none
 |[]=>⟨by simp[Zbr],by simp[Zbr],by simp⟩
 |f::r=>by
  obtain⟨a,b,c⟩:=Zoh j v r;unfold Zbr;cases h:Zcj j v f with
  |none=>exact⟨by simp,by simp,λg q=>by simp at q;subst q;exact h⟩
  |some it=>
   refine⟨by simp only[List.length_cons];omega,λk g x y u=>?_,λg q=>?_⟩
   ·cases k with
    |zero=>simp at y u;subst y u;exact h
    |succ k=>exact b k g x (by simpa using y) (by simpa using u)
   ·exact c g (by simpa using q)
def ZjJ{fb:Nat}{det:Bool}{v:Nat}:∀fs:List Fr,(∀f∈fs,f.id.length<=4/\f.body.length<=1200)->∀x∈Zbr (wdF fb det) v fs,ItC x
 |[],_,x,j=>by simp[Zbr] at j
 |f::r,h,x,j=>by
  unfold Zbr at j;cases q:Zcj (wdF fb det) v f with
  |none=>rw[q] at j;simp at j
  |some it=>
   rw[q] at j;rcases List.mem_cons.1 j with rfl|j
   ·have:=h f (List.mem_cons_self ..);exact ZuB q this.1 this.2
   ·exact ZjJ r (λg u=>h g (List.mem_cons_of_mem _ u)) x j
def Zi:Option Tg->Tg
 |some t=>t
 |none=>⟨0,0,0,[]⟩
noncomputable def ZcB(fb:Nat)(det:Bool)(b:List UInt8):Option (List UInt8):=match ZS b with
 | .error _=>none
 | .ok r=>if(Zbr (wdF fb det) (Zi r.1).v (Zi r.1).fs).length=(Zi r.1).fs.length then ZaG (Zi r.1).v (Zi r.1).rev (Zi r.1).fl (Zbr (wdF fb det) (Zi r.1).v (Zi r.1).fs) r.2 else none
def ZjH{b:List UInt8}{r:Option Tg×List UInt8}(h:ZS b=.ok r):(ZS b=.ok (some ⟨(Zi r.1).v,(Zi r.1).rev,(Zi r.1).fl,(Zi r.1).fs⟩,r.2)\/(ZS b=.ok (none,r.2)/\(Zi r.1).v=0/\(Zi r.1).rev=0/\(Zi r.1).fl=0/\(Zi r.1).fs=[]))/\(∀f∈(Zi r.1).fs,f.id.length<=4/\f.body.length<=b.length)/\6*(Zi r.1).fs.length<=b.length/\(Zi r.1).fs.length<=4096:=by
 obtain⟨o,j⟩:=r;cases o with
 |none=>exact⟨.inr ⟨h,rfl,rfl,rfl,rfl⟩,by simp[Zi],by simp[Zi],by simp[Zi]⟩
 |some t=>
  obtain⟨v,rev,fl,fs⟩:=t;exact⟨.inl h,(ZjF h).1⟩
def Zob{b q:List UInt8}(h:ZS b=.ok (none,q)):b.take 3≠Zu/\q=b:=by
 rw[Zoa] at h;by_cases j:b.take 3≠Zu
 ·rw[if_pos j] at h;injection h with h
  simp only[Prod.mk.injEq] at h;exact⟨j,h.2.symm⟩
 ·rw[if_neg j] at h
  (repeat' split at h)<;>cases h
def ZjG{b:List UInt8}{r:Option Tg×List UInt8}(h:ZS b=.ok r):r.2.length<=b.length:=by
 obtain⟨o,j⟩:=r;cases o with
 |none=>rw[(Zob h).2];exact Nat.le_refl _
 |some t=>exact(ZjF h).2.1
def Zu5{fb:Nat}{det:Bool}{b s:List UInt8}(h:ZcB fb det b=some s)(q:List UInt8)(j:q.take 3=tgL):ZcB fb det (b++q)=some (s++q):=by
 have N:¬(b.length<3/\(b++q).take 3=Zu):=by
  rintro⟨J,u⟩;obtain⟨x,y,z,t,D⟩:∃x y z t,q=x::y::z::t:=by
   match q,j with
   |[],j=>simp[tgL] at j
   |[_],j=>simp[tgL] at j
   |[_,_],j=>simp[tgL] at j
   |x::y::z::t,_=>exact⟨x,y,z,t,rfl⟩
  subst D;simp[tgL] at j
  match b,J,u with
  |[],_,u=>simp[Zu,j] at u
  |[_],_,u=>simp[Zu,j] at u
  |[_,_],_,u=>simp[Zu,j] at u
  |_::_::_::_,J,_=>simp at J;omega
 unfold ZcB at h⊢;cases C:ZS b with
 |error x=>rw[C] at h;cases h
 |ok r=>
  rw[ZvF C q N];rw[C] at h;simp only at h⊢;split at h
  ·next hl=>
   rw[if_pos hl];refine ZvU h q λO=>?_;obtain⟨o,L⟩:=r;cases o with
   |some t=>exact absurd O (by have:=(ZjF C).2.2;show¬((t.v:Nat):Int)=0;omega)
   |none=>
    obtain⟨hn,rfl⟩:=Zob C;intro e;have e:(L++q).take 3=Zu:=e;by_cases I:L.length<3
    ·exact N ⟨I,e⟩
    ·exact hn (by rw[<-e,List.take_append_of_le_length (by omega)])
  ·cases h
def Zu6{fb:Nat}{det:Bool}{b s:List UInt8}(h:ZcB fb det b=some s):∃r,ZS b=.ok r/\∃a,s=a++r.2:=by
 unfold ZcB at h;cases j:ZS b with
 |error x=>rw[j] at h;cases h
 |ok r=>
  rw[j] at h;simp only at h;split at h
  ·exact⟨r,rfl,ZvT h⟩
  ·cases h
def Zu4{fb:Nat}{det:Bool}{b s:List UInt8}(h:ZcB fb det b=some s)(D:b.length<=1200):s.length<=64052000:=by
 unfold ZcB at h;cases j:ZS b with
 |error x=>rw[j] at h;cases h
 |ok r=>
  rw[j] at h;simp only at h;obtain⟨_,C,J,I⟩:=ZjH j;have q:=ZjJ (fb:=fb) (det:=det) (v:=(Zi r.1).v) (Zi r.1).fs λf y=>by have:=C f y;omega
  have u:=ZjG j;split at h
  ·have:=ZoD h q (by omega);omega
  ·cases h
section
variable {b:List UInt8} {r:Option Tg×List UInt8}
theorem Zrh(y:ZS b=.ok r)(J:b.length<=1200)(fb:Nat)(C:fb<=6)(det:Bool)(w:World)(hG:Grd w):
 Calls prog 41 #[.string (B b),.agg #[.int .i64 1,.int .i64 fb,.bool det,.int .i64 0]] w (ZbB w (if(Zbr (wdF fb det) (Zi r.1).v (Zi r.1).fs).length=(Zi r.1).fs.length then some ((Zi r.1).v,(Zi r.1).rev,(Zi r.1).fl,Zbr (wdF fb det) (Zi r.1).v (Zi r.1).fs,r.2) else none)):=by
 obtain⟨I,q,L,D⟩:=ZjH y;exact Zrf b (by omega) 1 0 fb det (Zi r.1).v (Zi r.1).rev (Zi r.1).fl (Zi r.1).fs r.2 _ I D (λf j=>by have:=q f j;omega)
  (λf j h0 wx u=>Zqc (Zi r.1).v f.id f.body (by have:=q f j;omega) (by have:=q f j;omega) h0 1 0 fb (by omega) det wx u)
  (λf _ x h=>ZtT h) (Zoh _ _ _) w hG
theorem Zk7(b:List UInt8)(hl:b.length<=1200)(fb:Nat)(aa:fb<=6)(det:Bool)(w:World)(hw:Wk w):
 Calls prog 6 #[.string (B b),.agg #[.int .i64 1,.int .i64 fb,.bool det,.int .i64 0]] w (ZN w (ZcB fb det b)):=by
 have ae:=Zj b;have C:Zdf 1 fb 0=true:=by unfold Zdf;rw[decide_eq_true_eq];omega
 unfold ZcB;cases O:ZS b with
 |error x=>
  simp only;exact Zk6 (B b) (by omega) 1 fb det C w λwx u=>ZkW (B b) fb 0 det wx λwy y=>Zrg b (by omega) 1 0 fb det x O wy
 |ok r=>
  simp only;have V:=λwx (u:Below w.heap.size w wx)=>Zrh O hl fb aa det wx (hw.below u).grd;by_cases J:(Zbr (wdF fb det) (Zi r.1).v (Zi r.1).fs).length=(Zi r.1).fs.length
  ·rw[if_pos J] at*;obtain⟨_,L,Y,h4⟩:=ZjH O;have W:=ZjJ (fb:=fb) (det:=det) (v:=(Zi r.1).v) (Zi r.1).fs λf hf=>by have:=L f hf;omega
   have ai:=ZjG O;generalize ad:Zbr (wdF fb det) (Zi r.1).v (Zi r.1).fs=q at*;have X:∀wx,Below w.heap.size w wx->Calls prog 15 #[.string (B b),.agg #[.int .i64 1,.int .i64 fb,.bool det,.int .i64 0]] wx λe w'=>∃T,e=.returned (.tuple #[.agg T,.agg #[.int .i64 0,.int .i64 0]])/\(T.size=25/\T.all (·.oneCell')=true)/\(Wk w'/\∃j,T=T67 1 (Zi r.1).v (Zi r.1).rev (Zi r.1).fl j r.2/\Zac 0 w' j q)/\Below wx.heap.size wx w':=λwx u=>by
    refine(Zqg (B b) 1 fb 0 det (Zi r.1).v (Zi r.1).rev (Zi r.1).fl r.2 q wx (.inl rfl) λwy y=>?_).mono ?_
    ·exact(V wy (u.trans (y.mono u.size))).mono λe w' h=>by
      obtain⟨I,j,h5,h6⟩:=h;exact⟨j,h5,h6,I⟩
    ·rintro e w' ⟨j,I,L,Y⟩;obtain⟨A,n,c,N⟩:=Zji L;subst N;exact⟨_,I,⟨Zpk ..,Zbw _ _ _ _ _ _ rfl⟩,⟨(hw.below u).below Y,_,rfl,L.low (Nat.zero_le _)⟩,Y⟩
   have hR:∀(T:Array Value) U Z,(Wk U/\∃j,T=T67 1 (Zi r.1).v (Zi r.1).rev (Zi r.1).fl j r.2/\Zac 0 U j q)->Below U.heap.size U Z->(Wk Z/\∃j,T=T67 1 (Zi r.1).v (Zi r.1).rev (Zi r.1).fl j r.2/\Zac 0 Z j q):=by
    rintro T U Z ⟨h0,j,I,L⟩ hb;exact⟨h0.below hb,j,I,L.below hb⟩
   have D:∀(T:Array Value) wx,(Wk wx/\∃j,T=T67 1 (Zi r.1).v (Zi r.1).rev (Zi r.1).fl j r.2/\Zac 0 wx j q)->Calls prog 16 #[.agg T] wx (ZN wx (ZaG (Zi r.1).v (Zi r.1).rev (Zi r.1).fl q r.2)):=by
    rintro T wx ⟨h0,j,rfl,xs,I,L,Y⟩;obtain⟨A,c,N,hr⟩:=RdN.of_rows Zjh L;subst N;have hl:xs.length=q.length:=by rw[<-I,List.length_map]
    have:=Zsn (T67 1 (Zi r.1).v (Zi r.1).rev (Zi r.1).fl (.slice A xs.length c) r.2) (Zpk ..) rfl (ZaG (Zi r.1).v (Zi r.1).rev (Zi r.1).fl (xs.map (·.1)) r.2) wx λwy y=>
     Zrt (Zi r.1).v (Zi r.1).rev (Zi r.1).fl xs A c r.2 wy _ rfl rfl rfl rfl rfl ((hr.below y).more y.size) (λx u=>by
      obtain⟨A5,c5,e5,O⟩:=RdN.of_rows ZjK (Y x u);exact⟨A5,c5,e5,(O.below y).more y.size⟩) (by omega) (λx u=>W x.1 (by rw[<-I];exact List.mem_map.2 ⟨x,u,rfl⟩)) (h0.grd.below y) (by omega)
    rw[I] at this;exact this
   cases hs:ZaG (Zi r.1).v (Zi r.1).rev (Zi r.1).fl q r.2 with
   |none=>
    rw[hs] at D;exact ZqY (B b) (by omega) 1 fb det C (λT w=>Wk w/\∃j,T=T67 1 (Zi r.1).v (Zi r.1).rev (Zi r.1).fl j r.2/\Zac 0 w j q) hR w X λT wx _ h=>D T wx h
   |some s=>
    rw[hs] at D;have ah:=ZoD hs W (by omega);have af:=Zj s;refine(ZqX (B b) (by omega) 1 fb det C (B s) (by omega) (λT w=>Wk w/\∃j,T=T67 1 (Zi r.1).v (Zi r.1).rev (Zi r.1).fl j r.2/\Zac 0 w j q) hR w X λT wx _ h=>(D T wx h).mono λe w' h=>⟨h.2,h.1⟩).mono λe w' h=>⟨h.2,h.1⟩
  ·rw[if_neg J] at*;exact Zk6 (B b) (by omega) 1 fb det C w λwx u=>ZkW (B b) fb 0 det wx λwy y=>V wy (u.trans (y.mono u.size))
end
