/- Lemmas for a statement on the tops; conditions: as each says. -/
import Derived.Deep.RegionHeld3
import Derived.Test.YtjilfbhkdjanhaaGreatDoorM13
set_option linter.all false
set_option maxRecDepth 100000
set_option maxHeartbeats 4000000
open Go.Proofs.Tryz
namespace Go.Proofs.YtjilfbhkdjanhaaGreatDoor
open Go Go.RowKit
def Zk{α:Type}(f:α->List Value)(B:Nat)(w:World)(v:Value)(l:List α):Prop:=
 (l=[]/\v=.slice none 0 0)\/∃q c:Nat,l≠[]/\v=.slice (some ⟨q,0,none⟩) l.length c/\l.length<=c/\B<=q/\q<w.heap.size/\∀j u,(l.flatMap f)[j]?=some u->w.cell? ⟨q,j,none⟩=some u
section
variable {α:Type} {m:Nat} {f:α->List Value} {B:Nat} {w w':World} {v:Value} {l:List α}
theorem Zk.below(h:Zk f B w v l)(hb:Below w.heap.size w w'):Zk f B w' v l:=by
 rcases h with h|⟨y,c,h0,L,J,D,q,I⟩
 ·exact .inl h
 ·exact .inr ⟨y,c,h0,L,J,D,Nat.lt_of_lt_of_le q hb.size,λj u C=>(hb.cell (p:=⟨y,j,none⟩) q).trans (I j u C)⟩
theorem Zk.but{C:Nat}(h:Zk f B w v l)(hb:But C w.heap.size w w')(O:C<B):Zk f B w' v l:=by
 rcases h with h|⟨q,c,h0,N,L,I,y,J⟩
 ·exact .inl h
 ·exact .inr ⟨q,c,h0,N,L,I,Nat.lt_of_lt_of_le y hb.size,λj u D=>(hb.cell (p:=⟨q,j,none⟩) y (by show q≠C;omega)).trans (J j u D)⟩
theorem Zk.low{B':Nat}(h:Zk f B w v l)(hB:B'<=B):Zk f B' w v l:=by
 rcases h with h|⟨C,c,h0,y,u,D,q,j⟩
 ·exact .inl h
 ·exact .inr ⟨C,c,h0,y,u,by omega,q,j⟩
theorem Zk.len(h:Zk f B w v l):∃A c,v=.slice A l.length c/\l.length<=c:=by
 rcases h with⟨h,j⟩|⟨u,c,h0,j,q,_⟩
 ·subst h;exact⟨none,0,j,Nat.le_refl _⟩
 ·exact⟨_,c,j,q⟩
theorem Zk.of_own{base:Nat}{e:TypeId}{n:Nat}(hn:n=l.length)(h:w.ownsRow base e m v n (l.flatMap f))(h0:l=[]->v=.slice none 0 0):Zk f base w v l:=by
 by_cases y:l=[]
 ·exact .inl ⟨y,h0 y⟩
 ·right
  rcases h.2 with⟨_,I⟩|⟨g,cap,cur,rfl,hb,L,D,O,N,C⟩
  ·rw[hn] at I;exact absurd (List.length_eq_zero_iff.1 I) y
  ·subst hn;refine⟨g,cap,y,rfl,D,hb,(Array.getElem?_eq_some_iff.1 L).1,λj u J=>?_⟩;have:=h.cells (g:=g) rfl j u J;have q:(⟨g,0,none⟩:Addr).add j=⟨g,j,none⟩:=by unfold Addr.add;split<;>simp_all
   rw[q] at this;exact this
end
def flatN{α:Type}(m:Nat)(f:α->List Value)(j:∀x,(f x).length=m):∀l:List α,(l.flatMap f).length=l.length*m
 |[]=>by simp
 |x::l=>by rw[List.flatMap_cons,List.length_append,j,flatN m f j l,List.length_cons,Nat.succ_mul];omega
def Zf3{α:Type}(m:Nat)(f:α->List Value)(q:∀x,(f x).length=m):∀(l:List α) (k j:Nat) (x:α),l[k]?=some x->j<m->(l.flatMap f)[k*m+j]?=(f x)[j]?
 |y::l,0,j,x,h,u=>by
  simp only[List.getElem?_cons_zero,Option.some.injEq] at h;subst h;rw[List.flatMap_cons,List.getElem?_append_left (by rw[q];omega)];congr 1
  omega
 |y::l,k+1,j,x,h,u=>by
  rw[List.getElem?_cons_succ] at h;rw[List.flatMap_cons,List.getElem?_append_right (by rw[q,Nat.succ_mul];omega),q,<-Zf3 m f q l k j x h u];congr 1
  rw[Nat.succ_mul];omega
def Zgo(w:World)(cs:List Value)(T:TypeId):∀j u,cs[j]?=some u->(w.alloc (.cells cs.toArray T)).cell? ((⟨w.heap.size,0,none⟩:Addr).add j)=some u:=by
 intro j u y;have q:(⟨w.heap.size,0,none⟩:Addr).add j=⟨w.heap.size,j,none⟩:=by unfold Addr.add;split<;>simp_all
 rw[q,cell_of_row _ w.heap.size j _ T (0,0) (heap_alloc_new w _)];simpa using y
def frV(f:Fr):List Value:=[.string (B f.id),.int .u8 f.st.toNat,.int .u8 f.fm.toNat,.int .u8 f.grp.toNat,.string (B f.body),.int .i64 f.at_]
def Zt2(f:Fr):(frV f).length=6:=rfl
def Zt3:(prog.info? 114).map (λi=>(i.zero,i.size,i.bytes))=some (some (.agg zero6),6,56):=by kernel_rfl
section
variable {ops:Array Oper} {rest:List Oper} {o:Oper} {a:Act} {Q:Exit->Act->World->Prop}
theorem ZlP(J:o.guard=none)(s x:Operand)(ho:o.op=.call {callee:=.builtin .append,args:=#[s,x],argTypes:=#[39,39]})(base:Nat)(v:Value)(L:List Fr)(hs:a.eval s=v)(W:World)(f:Fr)
 (j:W.ownsRow base 114 6 v L.length (L.flatMap frV)) (y:base<=W.heap.size) (V:L.length<=16777216) (hx:a.eval x=.slice (some ⟨W.heap.size,0,none⟩) 1 1)
 (h:∀O w',Hid (w'.ownsRow base 114 6 O (L++[f]).length ((L++[f]).flatMap frV))->Below base W w'->wpList prog ops Q rest (a.put o.dst O) w'):
 wpList prog ops Q (o::rest) a (W.alloc (.cells #[.string (B f.id),.int .u8 f.st.toNat,.int .u8 f.fm.toNat,.int .u8 f.grp.toNat,.string (B f.body),.int .i64 f.at_] 114)):=by
 obtain⟨Z,hi,I,D,C⟩:=info_parts Zt3;refine wpList_append_own _ J s x 39 ho base 114 Z _ 6 56 underlying39 hi I D C rfl (by decide) v L.length _ hs (j.alloc _) ⟨W.heap.size,0,none⟩ 1 1 (frV f) hx rfl (Zgo W (frV f) _) ?_ (by unfold maxLen;omega) (by omega) (by simp;omega) ?_
 ·intro u U;simp only[frV,List.mem_cons,List.not_mem_nil,or_false] at U;rcases U with rfl|rfl|rfl|rfl|rfl|rfl<;>rfl
 ·intro Y X q N _;refine h Y X (QQ ?_) (Zad ((Below.refl _ W).alloc y _) (j.alloc _) N (by simp;omega) NL);rw[List.flatMap_append,List.length_append];simpa[frV] using q
end
def lenV:Value->Nat
 | .slice _ n _=>n
 |_=>0
def ZaZ{w:World}{base:Nat}{e:TypeId}{size:Nat}{v:Value}{n:Nat}{xs:List Value}(h:w.ownsRow base e size v n xs):lenV v=n/\∃A c,v=.slice A n c/\n<=c:=by
 rcases h.2 with⟨rfl,rfl⟩|⟨g,cap,cur,rfl,hb,q,j,_⟩
 ·exact⟨rfl,none,0,rfl,Nat.le_refl _⟩
 ·exact⟨rfl,_,_,rfl,j⟩
def Zgf(l:List UInt8):∀i,i<=l.length->(∀j (h:j<l.length),j<i->l[j]=0)->Zcn l=(Zcn (l.drop i)).map (· +i)
 |0,_,_=>by simp
 |i+1,y,h=>by
  rw[Zgf l i (by omega) (λj u q=>h j u (by omega)),List.drop_eq_getElem_cons (show i<l.length by omega),Zcn];rw[if_pos (h i (by omega) (by omega)),Option.map_map];congr 1
  funext x;simp;omega
def ZgO(K:Nat)(w:World)(r:List Fr×InS)(e:Ending)(w':World):Prop:=∃vl,e=.returned vl/\Zk frV w.heap.size w' vl r.1/\InAt w' K r.2/\But K w.heap.size w w'
structure LSt (w0 wx:World)(K:Nat)(v:Int)(rev fl:UInt8)(fs:List Fr)(vl:Value)(s:InS):Prop where
 hd:Bx wx w0.heap.size (three v rev fl) 38
 inn:InAt wx K s
 own:wx.ownsRow (w0.heap.size+1) 114 6 vl fs.length (fs.flatMap frV)
 nil_:fs=[]->vl= .slice none 0 0
 but:But K w0.heap.size w0 wx
 hK:K<w0.heap.size
section
variable {w0 w w':World} {K:Nat} {v:Int} {rev fl:UInt8} {fs:List Fr} {vl:Value} {s s':InS}
theorem LSt.below(h:LSt w0 w K v rev fl fs vl s)(hb:Below w.heap.size w w'):LSt w0 w' K v rev fl fs vl s:=
 ⟨h.hd.below hb,h.inn.below hb,ZB h.own hb,h.nil_,h.but.trans (.of (hb.mono h.but.size)),h.hK⟩
theorem LSt.butK(h:LSt w0 w K v rev fl fs vl s)(j:InAt w' K s')(hb:But K w.heap.size w w'):LSt w0 w' K v rev fl fs vl s':=
 ⟨h.hd.but hb (by have:=h.hK;omega),j,ZdX h.own hb (by have:=h.hK;omega),h.nil_,h.but.trans (hb.mono h.but.size),h.hK⟩
theorem LSt.alloc(h:LSt w0 w K v rev fl fs vl s)(o:Obj):LSt w0 (w.alloc o) K v rev fl fs vl s:=h.below ((Below.refl _ _).alloc NL _)
theorem LSt.drewN(h:LSt w0 w K v rev fl fs vl s)(n:Nat):LSt w0 (w.drewN n) K v rev fl fs vl s:=h.below (below_drewN (Below.refl _ _) n)
theorem LSt.drew(h:LSt w0 w K v rev fl fs vl s):LSt w0 w.drew K v rev fl fs vl s:=h.below (below_drewN (Below.refl _ _) 1)
theorem LSt.cells(h:LSt w0 w K v rev fl fs vl s):(w.cell? ⟨w0.heap.size,0,none⟩=some (.int .i64 v)/\w.cell? ⟨w0.heap.size,1,none⟩=some (.int .u8 rev.toNat)/\w.cell? ⟨w0.heap.size,2,none⟩=some (.int .u8 fl.toNat))/\w0.heap.size<w.heap.size/\w0.heap.size+1<=w.heap.size:=
 ⟨⟨h.hd.cell 0,h.hd.cell 1,h.hd.cell 2⟩,h.hd.lt,h.hd.lt⟩
end
structure RSt (w0 wx:World)(K F:Nat)(v:Int)(rev fl:UInt8)(fs:List Fr)(vl:Value)(s:InS)(f:Fr):Prop where
 st:LSt w0 wx K v rev fl fs vl s
 frame:Zq wx F f
def Zec:Fr:=⟨[],0,0,0,[],0⟩
def Zft{B g:Nat}{w wx:World}(h:Below B w wx)(j:B<=g)(q b c d e f:Value):Below B w ((((((wx.setCell ⟨g,0,none⟩ q).setCell ⟨g,1,none⟩ b).setCell ⟨g,2,none⟩ c).setCell ⟨g,3,none⟩ d).setCell ⟨g,4,none⟩ e).setCell ⟨g,5,none⟩ f):=
 (((((h.setCell (p:=⟨g,0,none⟩) j q).setCell (p:=⟨g,1,none⟩) j b).setCell (p:=⟨g,2,none⟩) j c).setCell (p:=⟨g,3,none⟩) j d).setCell (p:=⟨g,4,none⟩) j e).setCell (p:=⟨g,5,none⟩) j f
def ZpI{w:World}{g:Nat}{T:TypeId}(h:Bx w g #[.string ⟨#[]⟩,.int .u8 0,.int .u8 0,.int .u8 0,.string ⟨#[]⟩,.int .i64 0] T):
 (w.cell? ⟨g,0,none⟩=some (.string ⟨#[]⟩)/\w.cell? ⟨g,1,none⟩=some (.int .u8 0)/\w.cell? ⟨g,2,none⟩=some (.int .u8 0)/\w.cell? ⟨g,3,none⟩=some (.int .u8 0)/\w.cell? ⟨g,4,none⟩=some (.string ⟨#[]⟩)/\w.cell? ⟨g,5,none⟩=some (.int .i64 0))/\(∀j,w.frozen? ⟨g,j,none⟩=false)/\g<w.heap.size:=
 ⟨⟨h.cell 0,h.cell 1,h.cell 2,h.cell 3,h.cell 4,h.cell 5⟩,h.free,h.lt⟩
def Bx.set6{w:World}{k g:Nat}{cs:Array Value}{T:TypeId}(h:Bx w k cs T)(j:k≠g)(q b c d e f:Value):Bx ((((((w.setCell ⟨g,0,none⟩ q).setCell ⟨g,1,none⟩ b).setCell ⟨g,2,none⟩ c).setCell ⟨g,3,none⟩ d).setCell ⟨g,4,none⟩ e).setCell ⟨g,5,none⟩ f) k cs T:=
 (((((h.set j 0 q).set j 1 b).set j 2 c).set j 3 d).set j 4 e).set j 5 f
def ZsS(w:World)(g B:Nat)(q b c d e f:Value):But g B w ((((((w.setCell ⟨g,0,none⟩ q).setCell ⟨g,1,none⟩ b).setCell ⟨g,2,none⟩ c).setCell ⟨g,3,none⟩ d).setCell ⟨g,4,none⟩ e).setCell ⟨g,5,none⟩ f):=
 ((((((But.refl g B w).setCell (p:=⟨g,0,none⟩) (.inr rfl) q).setCell (p:=⟨g,1,none⟩) (.inr rfl) b).setCell (p:=⟨g,2,none⟩) (.inr rfl) c).setCell (p:=⟨g,3,none⟩) (.inr rfl) d).setCell (p:=⟨g,4,none⟩) (.inr rfl) e).setCell (p:=⟨g,5,none⟩) (.inr rfl) f
def LSt.six{w0 w:World}{K g:Nat}{v:Int}{rev fl:UInt8}{fs:List Fr}{vl:Value}{s:InS}(h:LSt w0 w K v rev fl fs vl s)(u:w0.heap.size<g)(j:∀k,vl.ownBlock=some k->k<g)(q b c d e f:Value):
 LSt w0 ((((((w.setCell ⟨g,0,none⟩ q).setCell ⟨g,1,none⟩ b).setCell ⟨g,2,none⟩ c).setCell ⟨g,3,none⟩ d).setCell ⟨g,4,none⟩ e).setCell ⟨g,5,none⟩ f) K v rev fl fs vl s:=
 ⟨h.hd.set6 (by omega) _ _ _ _ _ _,h.inn.set6 (by have:=h.hK;omega) _ _ _ _ _ _,h.own.kept (row:=some g) (ZsQ (ZsS w g _ q b c d e f)) (.inr λe=>by have:=j g e;omega),h.nil_,h.but.set6 (by omega) _ _ _ _ _ _,h.hK⟩
def Bx.same6{w w':World}{g B:Nat}{cs:Array Value}{T:TypeId}(h:Bx w g cs T)(hb:Below B w w')(j:g<B):Bx w' g cs T:=(hb.block g j).trans h
def ZrRel(l:List UInt8)(i:Value):Prop:=∃k:Nat,k<=l.length/\i=.int .i64 k/\∀j (h:j<l.length),j<k->l[j]=0
def FmRel(w0:World)(K:Nat)(v:Int)(rev fl:UInt8)(j:InS)(vl:Value)(wr:World):Prop:=∃(fs:List Fr) (s:InS),fs.length<=4096/\LSt w0 wr K v rev fl fs vl s/\
 Z7 v.toNat (ZJ fl) 4096 j=(fs++(Z7 v.toNat (ZJ fl) (4096 - fs.length) s).1,(Z7 v.toNat (ZJ fl) (4096 - fs.length) s).2)
def Zqx(K:Nat)(s0:InS)(v:Int)(rev fl:UInt8)(w:World)(h:InAt w K s0):
 Calls prog 26 #[.agg (three v rev fl),.pointer (some ⟨K,0,none⟩)] w (ZgO K w (Zcx v.toNat (ZJ fl) s0)):=by
 generalize hP:ZgO K w (Zcx v.toNat (ZJ fl) s0)=P at*;have H:=QQ h;have aQ:=h.lt;have aX:=λw=>Zit v rev fl w;clear h;go_enter func26,ntmps26
 go_wp2_with fail
 go_loopw [5] (λvl wr=>FmRel w K v rev fl s0 vl wr) (λvl _=>4097 - lenV vl)
 case atStart=>exact⟨[],s0,by simp,⟨Bx.new w _ _,H.alloc _,⟨rfl,.inl ⟨rfl,rfl⟩⟩,λ_=>rfl,(But.refl _ _ _).alloc NL _,aQ⟩,by simp⟩
 case round=>
  obtain⟨fs,s,bv,ay,aL⟩:=hrel;have ST:=QQ ay;have HL:=QQ aL;obtain⟨aM,A0,c0,aW,bw⟩:=ZaZ ay.own;have bb:=QQ aM;clear ay aL aM;subst aW;have az:=λw h=>Zqe K s v (ZJ fl) w h;obtain⟨r,hr⟩:∃r,r=Zbg v.toNat s (ZJ fl):=⟨_,rfl⟩
  rw[<-hr] at az;have Hr:=QQ hr;clear hr;obtain⟨⟨d0,d1,d2⟩,l1,l2⟩:=ST.cells;go_upto_region 2 with fail
  go_cut [6,7] (λs6 s7 wx=>s7=.bool r.1.isSome/\∃F,s6=.pointer (some ⟨F,0,none⟩)/\RSt w wx K F v rev fl fs (.slice A0 fs.length c0) r.2 (r.1.getD Zec))
  case first=>
   obtain⟨o,s'⟩:=r;have a1:∀w,InAt w K s->Calls prog 58 #[.int .i64 v,.pointer (some ⟨K,0,none⟩),.bool (ZJ fl)] w λe w'=>e=.returned (.tuple #[.agg #[.string (B (o.getD Zec).id),.int .u8 (o.getD Zec).st.toNat,.int .u8 (o.getD Zec).fm.toNat,.int .u8 (o.getD Zec).grp.toNat,.string (B (o.getD Zec).body),.int .i64 (o.getD Zec).at_],.bool o.isSome])/\InAt w' K s'/\But K w.heap.size w w':=by
    intro w h;refine(az w h).mono ?_;cases o with
    |none=>rintro e w2 ⟨h2,J,rfl⟩;exact⟨rfl,h2,J⟩
    |some f=>rintro e w2 ⟨h2,J,rfl⟩;exact⟨rfl,h2,J⟩
   have aK:∀k,(Value.slice A0 fs.length c0).ownBlock=some k->k<wr.heap.size:=λk hk=>(ST.own.lt k hk).2;have aD:=QQ aK
   try simp only
   clear az aK;generalize o.isSome=ob at*;generalize o.getD Zec=f at*;go_region_held3 (λw'=>w'.cell? ⟨w.heap.size,0,none⟩=some (.int .i64 v)/\w'.cell? ⟨w.heap.size,1,none⟩=some (.int .u8 rev.toNat)/\w'.cell? ⟨w.heap.size,2,none⟩=some (.int .u8 fl.toNat))
    (first|with_reducible exact ST.out.drew.cells.1|with_reducible exact Y.out.cells.1|with_reducible exact X.out.cells.1|with_reducible exact(ST.out.alloc _).drew.cells.1|with_reducible exact(Y.out.alloc _).cells.1|with_reducible exact(X.out.alloc _).cells.1|with_reducible exact(X.out.six (by omega) (λk hk=>by have:=aD.out k hk;omega) _ _ _ _ _ _).cells.1)
    (first
     |(go_at_call 56;refine MR (aX _) λw1 ao=>?_;have Y:Hid (LSt w w1 K v rev fl fs (.slice A0 fs.length c0) s):=QQ (by first|exact(ST.drewN 1).below ao|exact((ST.alloc (.cells #[.string ⟨#[]⟩,.int .u8 0,.int .u8 0,.int .u8 0,.string ⟨#[]⟩,.int .i64 0] 114)).drewN 1).below ao);have bs:wr.heap.size<=w1.heap.size:=(by have:=ao.size;simp at this;omega))
     |(go_at_call 58;refine(a1 _ (by first|exact Y.inn|exact(Y.alloc _).inn)).mono ?_;rintro e w2 ⟨rfl,h2,J⟩;have X:Hid (LSt w w2 K v rev fl fs (.slice A0 fs.length c0) s'):=QQ (by first|exact Y.butK h2 J|exact(Y.alloc _).butK h2 J);first|(have BX:Bx w2 wr.heap.size #[.string ⟨#[]⟩,.int .u8 0,.int .u8 0,.int .u8 0,.string ⟨#[]⟩,.int .i64 0] 114:=(Bx.below (w:=(wr.alloc (.cells #[.string ⟨#[]⟩,.int .u8 0,.int .u8 0,.int .u8 0,.string ⟨#[]⟩,.int .i64 0] 114)).drew) (Bx.new wr _ _) ao).but J (by omega);obtain⟨⟨x0,x1,x2,x3,x4,x5⟩,xf,xl⟩:=ZpI (g:=wr.heap.size) BX;have aE:=QQ BX;clear BX)|(have BX:Bx w2 w1.heap.size #[.string ⟨#[]⟩,.int .u8 0,.int .u8 0,.int .u8 0,.string ⟨#[]⟩,.int .i64 0] 114:=(Bx.new w1 _ _).but J (by omega);obtain⟨⟨x0,x1,x2,x3,x4,x5⟩,xf,xl⟩:=ZpI (g:=w1.heap.size) BX;have aE:=QQ BX;clear BX)|skip))
   ·go_wp2_with fail
    go_meet
    exact⟨rfl,_,rfl,X.alloc _,Bx.new w2 _ _⟩
   ·go_wp2_with fail
    go_meet
    exact⟨rfl,_,rfl,X.six (by omega) (λk hk=>by have:=aD.out k hk;omega) _ _ _ _ _ _,aE.zero6 _ _ _ _ _ _⟩
   ·go_wp2_with fail
    go_meet
    exact⟨rfl,_,rfl,X.six (by omega) (λk hk=>by have:=aD.out k hk;omega) _ _ _ _ _ _,aE.zero6 _ _ _ _ _ _⟩
  case rest=>
   obtain⟨rfl,F,rfl,aP⟩:=hcut;have SR:=QQ aP;clear aP d0 d1 d2 l1 l2;obtain⟨⟨d0,d1,d2⟩,l1,l2⟩:=SR.st.cells;obtain⟨o,D⟩:=r;cases o with
   |none=>
    have hX:Z7 v.toNat (ZJ fl) 4096 s0=(fs,D):=by
     rw[HL.out];have:Z7 v.toNat (ZJ fl) (4096 - fs.length) s=([],D):=by
      cases(4096 - fs.length)<;>(unfold Z7;rw[<-Hr.out])
     rw[this,List.append_nil]
    have HX:=QQ hX;have u:Hid (LSt w wc K v rev fl fs (.slice A0 fs.length c0) D):=QQ SR.st;clear hX;go_wp2_with fail
    have aB:=λw h=>Zcs K D w h;have N:=λw h=>ZeU K D w h;unfold Zh at N;obtain⟨q,hq⟩:∃q,q=D.rest:=⟨_,rfl⟩
    rw[<-hq] at N;have ac:Zcx v.toNat (ZJ fl) s0=match Zcn q.1 with|none=>(fs,q.2)|some i=>(fs,q.2.fail 1 (D.at_+i)):=by
     unfold Zcx;rw[HX.out,hq];rfl
    have af:=QQ ac;have aZ:q.1.length<=1000000000:=by rw[hq];exact ZjY D u.inn.len
    have O:=u.inn.base;have aO:D.at_<=2000000000:=by
     have h2:=u.inn.fits;have h4:=u.inn.len;rw[InS.at_,Zd1 D D.n O (by omega)];omega
    have aI:=Zj q.1;clear ac hq;generalize D.at_=U at*;go_wp2_with (first
     |(go_at_call 57;refine(aB _ u.inn).mono ?_;rintro e w8 ⟨rfl,rfl⟩)
     |(go_at_call 29;refine(N _ u.inn).mono ?_;rintro e w9 ⟨rfl,h9,ad⟩;have y:=QQ (u.butK h9 ad);clear h9 ad))
    go_loop [39] (λi=>ZrRel q.1 i) (λi=>q.1.length - (intOf i).toNat)
    case atStart=>exact⟨0,Nat.zero_le _,rfl,λj _ h=>by omega⟩
    case round=>
     obtain⟨k,hk,rfl,hz⟩:=hrel;have Hz:=QQ hz;clear hz;by_cases ab:k<q.1.length
     ·have hg:=ZaV q.1 k ab;by_cases W:q.1[k]=0
      ·have ax:((q.1[k].toNat:Int) !=0)=false:=by rw[W];rfl
       have Hx:=QQ W;clear W;go_wp2_with fail
       go_round
       case rel=>
        refine⟨k+1,by omega,by go_num,λj hj a3=>?_⟩;by_cases e:j=k
        ·subst e;exact Hx.out
        ·exact Hz.out j hj (by omega)
       case measure=>simp[intOf];omega
      ·have ax:((q.1[k].toNat:Int) !=0)=true:=by rw[ZdV];simpa using W
       have C:Zcn q.1=some k:=by
        rw[Zgf q.1 k (by omega) Hz.out,List.drop_eq_getElem_cons ab,Zcn,if_neg W];simp
       have Z:=λw h=>Za2 K q.2 1 ((U:Int)+k) (by decide) (by omega) w h;have hR:=af.out;rw[C] at hR;simp only at hR;rw[show(1:Int).toNat=1 from rfl,show((U:Int)+k).toNat=U+k by omega] at Z;unfold Zh at Z;have V:=QQ hR;clear hR C W;go_wp2_with (go_at_call 51;refine(Z _ y.inn).mono ?_;rintro e aV ⟨rfl,ae,L⟩;have I:=QQ (y.butK ae L);clear ae L)
       show P (.returned (.slice A0 fs.length c0)) _
       rw[<-hP,V.out];exact⟨_,rfl,(Zk.of_own rfl I.own I.nil_).low (by omega),I.inn,I.but⟩
     ·have aA:k=q.1.length:=by omega
      subst aA;have C:Zcn q.1=none:=by
       rw[Zgf q.1 _ NL Hz.out,List.drop_length];rfl
      have hR:=af.out;rw[C] at hR;simp only at hR;have V:=QQ hR;clear hR C;go_wp2_with fail
      show P (.returned (.slice A0 fs.length c0)) _
      rw[<-hP,V.out];exact⟨_,rfl,(Zk.of_own rfl y.own y.nil_).low (by omega),y.inn,y.but⟩
   |some f=>
    have au:=SR.frame.get;simp only[Option.getD_some] at au;obtain⟨y0,y1,y2,y3,y4,y5⟩:=au;by_cases h4:fs.length=4096
    ·have bt:=ZvE Hr.symm;have Z:=λw h=>Za2 K D 4 f.at_ (by decide) (by omega) w h;rw[show(4:Int).toNat=4 from rfl] at Z;have hX:Z7 v.toNat (ZJ fl) 4096 s0=(fs,D.fail 4 f.at_.toNat):=by
      rw[HL.out,h4];show(fs++(Z7 v.toNat (ZJ fl) 0 s).1,_)=_
      have:Z7 v.toNat (ZJ fl) (4096 - 4096) s=([],D.fail 4 f.at_.toNat):=by
       show Z7 v.toNat (ZJ fl) 0 s=_
       unfold Z7;rw[<-Hr.out]
      rw[show(4096 - 4096)=0 from rfl] at this;rw[this,List.append_nil]
     unfold Zh at Z;obtain⟨sY,aJ⟩:∃sY,sY=D.fail 4 f.at_.toNat:=⟨_,rfl⟩
     rw[<-aJ] at Z hX;have HX:=QQ hX;have a5:((fs.length:Int)==4096)=true:=by rw[h4];rfl
     clear hX aJ h4;go_upto_region 7 with(go_at_call 51;refine(Z _ SR.st.inn).mono ?_;rintro e w4 ⟨rfl,h4,aN⟩;have u:=QQ (SR.st.butK h4 aN);clear h4 aN)
     have aB:=λw h=>Zcs K sY w h;have N:=λw h=>ZeU K sY w h;unfold Zh at N;obtain⟨q,hq⟩:∃q,q=sY.rest:=⟨_,rfl⟩
     rw[<-hq] at N;have ac:Zcx v.toNat (ZJ fl) s0=match Zcn q.1 with|none=>(fs,q.2)|some i=>(fs,q.2.fail 1 (sY.at_+i)):=by
      unfold Zcx;rw[HX.out,hq];rfl
     have af:=QQ ac;have aZ:q.1.length<=1000000000:=by rw[hq];exact ZjY sY u.inn.len
     have O:=u.inn.base;have aO:sY.at_<=2000000000:=by
      have h2:=u.inn.fits;have h4:=u.inn.len;rw[InS.at_,Zd1 sY sY.n O (by omega)];omega
     have aI:=Zj q.1;clear ac hq;generalize sY.at_=U at*;go_wp2_with (first
      |(go_at_call 57;refine(aB _ u.inn).mono ?_;rintro e w8 ⟨rfl,rfl⟩)
      |(go_at_call 29;refine(N _ u.inn).mono ?_;rintro e w9 ⟨rfl,h9,ad⟩;have y:=QQ (u.butK h9 ad);clear h9 ad))
     go_loop [39] (λi=>ZrRel q.1 i) (λi=>q.1.length - (intOf i).toNat)
     case atStart=>exact⟨0,Nat.zero_le _,rfl,λj _ h=>by omega⟩
     case round=>
      obtain⟨k,hk,rfl,hz⟩:=hrel;have Hz:=QQ hz;clear hz;by_cases ab:k<q.1.length
      ·have hg:=ZaV q.1 k ab;by_cases W:q.1[k]=0
       ·have ax:((q.1[k].toNat:Int) !=0)=false:=by rw[W];rfl
        have Hx:=QQ W;clear W;go_wp2_with fail
        go_round
        case rel=>
         refine⟨k+1,by omega,by go_num,λj hj a3=>?_⟩;by_cases e:j=k
         ·subst e;exact Hx.out
         ·exact Hz.out j hj (by omega)
        case measure=>simp[intOf];omega
       ·have ax:((q.1[k].toNat:Int) !=0)=true:=by rw[ZdV];simpa using W
        have C:Zcn q.1=some k:=by
         rw[Zgf q.1 k (by omega) Hz.out,List.drop_eq_getElem_cons ab,Zcn,if_neg W];simp
        have Z:=λw h=>Za2 K q.2 1 ((U:Int)+k) (by decide) (by omega) w h;have hR:=af.out;rw[C] at hR;simp only at hR;rw[show(1:Int).toNat=1 from rfl,show((U:Int)+k).toNat=U+k by omega] at Z;unfold Zh at Z;have V:=QQ hR;clear hR C W;go_wp2_with (go_at_call 51;refine(Z _ y.inn).mono ?_;rintro e aV ⟨rfl,ae,L⟩;have I:=QQ (y.butK ae L);clear ae L)
        show P (.returned (.slice A0 fs.length c0)) _
        rw[<-hP,V.out];exact⟨_,rfl,(Zk.of_own rfl I.own I.nil_).low (by omega),I.inn,I.but⟩
      ·have aA:k=q.1.length:=by omega
       subst aA;have C:Zcn q.1=none:=by
        rw[Zgf q.1 _ NL Hz.out,List.drop_length];rfl
       have hR:=af.out;rw[C] at hR;simp only at hR;have V:=QQ hR;clear hR C;go_wp2_with fail
       show P (.returned (.slice A0 fs.length c0)) _
       rw[<-hP,V.out];exact⟨_,rfl,(Zk.of_own rfl y.own y.nil_).low (by omega),y.inn,y.but⟩
    ·have a5:((fs.length:Int)==4096)=false:=by rw[beq_eq_false_iff_ne];omega
     have hX:Z7 v.toNat (ZJ fl) 4096 s0=((fs++[f])++(Z7 v.toNat (ZJ fl) (4096 - (fs++[f]).length) D).1,(Z7 v.toNat (ZJ fl) (4096 - (fs++[f]).length) D).2):=by
      rw[HL.out];obtain⟨n,hn⟩:∃n,4096 - fs.length=n+1:=⟨4096 - fs.length - 1,by omega⟩
      have h1:Z7 v.toNat (ZJ fl) (4096 - fs.length) s=(f::(Z7 v.toNat (ZJ fl) n D).1,(Z7 v.toNat (ZJ fl) n D).2):=by
       rw[hn];conv=>lhs;unfold Z7;rw[<-Hr.out]
      have h2:4096 - (fs++[f]).length=n:=by simp;omega
      rw[h1,h2];simp
     have HX:=QQ hX;clear hX;go_wp2_with (at_builtin;refine ZlP rfl _ _ rfl (w.heap.size+1) (.slice A0 fs.length c0) fs rfl wc f SR.st.own (by omega) (by omega) rfl ?_;intro v6 w6 a7 an;have u:Hid (LSt w w6 K v rev fl (fs++[f]) v6 D):=QQ ⟨SR.st.hd.same6 an (by omega),SR.st.inn.same (an.block _ (by omega)),a7.out,λh=>by simp at h,SR.st.but.trans (.of (an.mono (by omega))),aQ⟩;clear an)
     have a2:=(ZaZ u.own).1;go_roundw
     case rel=>exact⟨fs++[f],D,by simp;omega,u.out,HX.out⟩
     case measure=>rw[a2];simp[lenV];omega
def ZfP(w:World)(r:Except (Nat×Nat) (Option Tg×List UInt8))(e:Ending)(w':World):Prop:=Below w.heap.size w w'/\match r with
 | .error x=>e=.returned (.tuple #[.agg #[.int .i64 0,.int .u8 0,.int .u8 0,.slice none 0 0],.string ⟨#[]⟩,.agg #[.int .i64 x.1,.int .i64 x.2]])/\x.1≠0
 | .ok (none,rest)=>e=.returned (.tuple #[.agg #[.int .i64 0,.int .u8 0,.int .u8 0,.slice none 0 0],.string (B rest),.agg #[.int .i64 0,.int .i64 0]])
 | .ok (some t,rest)=>∃vl,e=.returned (.tuple #[.agg #[.int .i64 t.v,.int .u8 t.rev.toNat,.int .u8 t.fl.toNat,vl],.string (B rest),.agg #[.int .i64 0,.int .i64 0]])/\Zk frV w.heap.size w' vl t.fs
namespace InS
def take_ok(s:InS)(k:Nat)(h:(s.take k).2.e=0):s.e=0/\(s.take k).2.n=s.n+k/\(s.take k).2.t=s.t:=by
 unfold take at h⊢;split at h
 ·contradiction
 ·rename_i h0
  have j:s.e=0:=by simpa using h0
  split at h
  ·simp only[short,fail] at h;rw[if_pos ⟨j,by decide⟩] at h;exact absurd h Nat.one_ne_zero
  ·rename_i q
   rw[if_neg h0,if_neg q];exact⟨j,rfl,rfl⟩
def big_ok(s:InS)(k:Nat)(j:k<=8)(h:(s.big k).2.e=0):s.e=0/\(s.big k).2.n=s.n+k/\(s.big k).2.t=s.t:=by
 unfold big at h⊢;simp only[Nat.min_eq_left j] at h⊢;exact take_ok s k h
def fail_ok(s:InS)(e a:Nat)(he:e≠0):(s.fail e a).e≠0:=by
 unfold fail;split
 ·exact he
 ·rename_i h;exact λh0=>h ⟨h0,he⟩
def safe_ok(s:InS)(h:s.safe.2.e=0):s.e=0/\s.safe.2.n=s.n+4/\s.safe.2.t=s.t:=by
 have hs:s.safe=match InS.high (s.take 4).1 with
  |some i=>(0,(s.take 4).2.fail 1 ((s.take 4).2.place ((s.take 4).2.n - (s.take 4).1.length+i)))
  |none=>(ZbL (s.take 4).1,(s.take 4).2):=rfl
 rw[hs] at h⊢;clear hs;cases j:InS.high (s.take 4).1 with
 |some i=>rw[j] at h;exact absurd h (fail_ok _ _ _ (by decide))
 |none=>rw[j] at h;exact take_ok s 4 h
def want_ok(s:InS)(l:List UInt8)(h:(s.want l).2.e=0):s.e=0/\(s.want l).2.n=s.n+l.length/\(s.want l).2.t=s.t:=by
 unfold want at h⊢;by_cases h0:s.e≠0
 ·rw[if_pos h0] at h;exact absurd h h0
 ·rw[if_neg h0] at h⊢;cases hd:differ l (s.t.drop s.n) with
  |some i=>rw[hd] at h;exact absurd h (fail_ok _ _ _ (by decide))
  |none=>
   rw[hd] at h;simp only at h⊢;split at h
   ·exact absurd h (fail_ok _ _ _ (by decide))
   ·rename_i j
    rw[if_neg j];exact⟨by simpa using h0,rfl,rfl⟩
end InS
def Zum(s:InS)(h:(ZW s).2.e=0):s.e=0/\(ZW s).2.n=s.n+6/\(ZW s).2.t=s.t:=by
 unfold ZW at h⊢;obtain⟨q,D⟩:∃q,q=(s.want Zu).2:=⟨_,rfl⟩
 obtain⟨a,L⟩:∃a,a=q.big 1:=⟨_,rfl⟩
 obtain⟨b,hb⟩:∃b,b=a.2.big 1:=⟨_,rfl⟩
 obtain⟨c,J⟩:∃c,c=b.2.big 1:=⟨_,rfl⟩
 simp only[<-D,<-L,<-hb,<-J] at h⊢;by_cases N:c.2.e≠0
 ·rw[if_pos N] at h;exact absurd h N
 ·rw[if_neg N] at h⊢;have key:∀(p:Prop) [Decidable p] (x:InS) (e k:Nat),e≠0->(if p then x.fail e k else x).e=0->¬p/\x.e=0:=by
   intro p _ x e k he j;by_cases I:p
   ·rw[if_pos I] at j;exact absurd j (InS.fail_ok _ _ _ he)
   ·rw[if_neg I] at j;exact⟨I,j⟩
  obtain⟨O,X⟩:=key _ _ _ _ (by decide) h;obtain⟨U,Y⟩:=key _ _ _ _ (by decide) X;obtain⟨V,Z⟩:=key _ _ _ _ (by decide) Y;obtain⟨W,h1⟩:=key _ _ _ _ (by decide) Z;rw[if_neg O,if_neg U,if_neg V,if_neg W];have C:=InS.big_ok b.2 1 (by omega) (by rw[<-J];exact h1);have k2:=InS.big_ok a.2 1 (by omega) (by rw[<-hb];exact C.1);have y:=InS.big_ok q 1 (by omega) (by rw[<-L];exact k2.1);have u:=InS.want_ok s Zu (by rw[<-D];exact y.1);rw[<-J] at C;rw[<-hb] at k2;rw[<-L] at y;rw[<-D] at u;have:Zu.length=3:=rfl;exact⟨u.1,by show c.2.n=_;omega,by show c.2.t=_;rw[C.2.2,k2.2.2,y.2.2,u.2.2]⟩
def Zgn{P:Program}{fn:Func}{p t q:Tmp}{ty j:TypeId}(h:fn.results=#[.cell p ty,.tmp t,.cell q j])(tmps:Array Value)(w:World)(g k:Nat)(T U:TypeId)(cs y:Array Value)(fr C:Nat×Nat)(d d2:TypeDesc)(u:Value)
 (Y:tmps.getD p undef=.pointer (some ⟨g,0,none⟩)) (W:tmps.getD t undef=u) (X:tmps.getD q undef=.pointer (some ⟨k,0,none⟩)) (hg:w.heap[g]?=some (.cells cs T fr)) (Z:w.heap[k]?=some (.cells y U C))
 (V:P.underlying ty=some d) (hd:(match d with| .struct _| .array _ _=>true|_=>false)=true) (hi:(P.info? ty).map (·.size)=some cs.size)
 (D:P.underlying j=some d2) (O:(match d2 with| .struct _| .array _ _=>true|_=>false)=true) (N:(P.info? j).map (·.size)=some y.size):
 (results fn tmps).run P w=.ok (.tuple #[.agg cs,u,.agg y]) w:=by
 have L:tmps[p]?.getD undef=.pointer (some ⟨g,0,none⟩):=by simpa using Y
 have I:tmps[t]?.getD undef=u:=by simpa using W
 have J:tmps[q]?.getD undef=.pointer (some ⟨k,0,none⟩):=by simpa using X
 simp[results,h,L,I,J,asAddr,run_loadVar_row w g T ty cs fr d hg V hd hi,run_loadVar_row w k U j y C d2 Z D O N]
def Zap{P:Program}{fn:Func}{t q:Tmp}{j:TypeId}(h:fn.results=#[.tmp t,.cell q j])(tmps:Array Value)(w:World)(k:Nat)(O:TypeId)(y:Array Value)(C:Nat×Nat)(d2:TypeDesc)(u:Value)
 (U:tmps.getD t undef=u) (V:tmps.getD q undef=.pointer (some ⟨k,0,none⟩)) (W:w.heap[k]?=some (.cells y O C))
 (D:P.underlying j=some d2) (N:(match d2 with| .struct _| .array _ _=>true|_=>false)=true) (L:(P.info? j).map (·.size)=some y.size):
 (results fn tmps).run P w=.ok (.tuple #[u,.agg y]) w:=by
 have I:tmps[t]?.getD undef=u:=by simpa using U
 have J:tmps[q]?.getD undef=.pointer (some ⟨k,0,none⟩):=by simpa using V
 simp[results,h,I,J,asAddr,run_loadVar_row w k O j y C d2 W D N L]
def Zr8(j:List UInt8)(X:j.length<=900000000)(C:j.take 3≠Zu)(w:World):
 Calls prog 7 #[.string (B j)] w (ZfP w (ZS j)):=by
 have hR:ZS j=.ok (none,j):=by unfold ZS;rw[if_pos C]
 rw[hR];generalize W:ZfP w (.ok (none,j))=P at*;have N:=Zj j;have fin:∀(y:Array Value),y.getD 2 undef=.pointer (some ⟨w.heap.size,0,none⟩)->y.getD 3 undef=.string (B j)->y.getD 4 undef=.pointer (some ⟨w.heap.size+1,0,none⟩)->
  bodyPost prog Tryz.f7 P .ret {tmps:=y,defers:=[]} ((w.alloc (.cells #[.int .i64 0,.int .u8 0,.int .u8 0,.slice none 0 0] 41)).alloc (.cells #[.int .i64 0,.int .i64 0] 34)):=by
  intro y L J I;have b1:=(Bx.new w #[.int .i64 0,.int .u8 0,.int .u8 0,.slice none 0 0] 41).alloc (.cells #[.int .i64 0,.int .i64 0] 34);have D:=Bx.new (w.alloc (.cells #[.int .i64 0,.int .u8 0,.int .u8 0,.slice none 0 0] 41)) #[.int .i64 0,.int .i64 0] 34;rw[World.size_alloc] at D;refine bodyPost_ret (Zgn rfl _ _ w.heap.size (w.heap.size+1) _ _ _ _ _ _ _ _ _ L J I b1 D underlying41 rfl (by kernel_rfl) underlying34 rfl (by kernel_rfl)) rfl ?_;rw[<-W];exact⟨((Below.refl _ _).alloc NL _).alloc (by simp) _,rfl⟩
 have Fin:=QQ fin;clear fin hR;by_cases q:j.length<3
 ·have u:(j.length:Int)<3:=by omega
  clear C q;go_enter func7,ntmps7
  go_wp2_with fail
  exact Fin.out _ rfl rfl rfl
 ·have he:(B j).extract 0 3=B (j.take 3):=by rw[ZgG];rfl
  have V:((B (j.take 3)).toList==[73,68,51])=false:=by rw[seqB,beq_eq_false_iff_ne];exact C
  have U:((B (j.take 3)).toList !=[73,68,51])=true:=by rw[bne,V];rfl
  have O:¬(B (j.take 3)).toList=[73,68,51]:=by rw[Zjn];exact C
  have u:¬(j.length:Int)<3:=by omega
  clear C q;go_enter func7,ntmps7
  go_wp2_with fail
  exact Fin.out _ rfl rfl rfl
def zTag:Array Value:=#[.int .i64 0,.int .u8 0,.int .u8 0,.slice none 0 0]
structure TSt (w0 wx:World)(K H:Nat)(v:Int)(rev fl:UInt8)(s:InS):Prop where
 r2:Bx wx w0.heap.size zTag 41
 r4:Bx wx (w0.heap.size+1) #[.int .i64 0,.int .i64 0] 34
 hd:Bx wx H (three v rev fl) 38
 inn:InAt wx K s
 low:Below w0.heap.size w0 wx
 hK:w0.heap.size+1<K
 hH:w0.heap.size+1<H
 hKH:K<H
section
variable {w0 w w':World} {K H:Nat} {v:Int} {rev fl:UInt8} {s s':InS}
theorem TSt.below(h:TSt w0 w K H v rev fl s)(hb:Below w.heap.size w w'):TSt w0 w' K H v rev fl s:=
 ⟨h.r2.below hb,h.r4.below hb,h.hd.below hb,h.inn.below hb,h.low.trans (hb.mono h.low.size),h.hK,h.hH,h.hKH⟩
theorem TSt.butK(h:TSt w0 w K H v rev fl s)(j:InAt w' K s')(hb:But K w.heap.size w w'):TSt w0 w' K H v rev fl s':=
 ⟨h.r2.but hb (by have:=h.hK;omega),h.r4.but hb (by have:=h.hK;omega),h.hd.but hb (by have:=h.hKH;omega),j,h.low.trans ((hb.mono h.low.size).below (by have:=h.hK;omega)),h.hK,h.hH,h.hKH⟩
theorem TSt.butO{C:Nat}(h:TSt w0 w K H v rev fl s)(hb:But C w.heap.size w w')(j:H<C):TSt w0 w' K H v rev fl s:=
 ⟨h.r2.but hb (by have:=h.hH;omega),h.r4.but hb (by have:=h.hH;omega),h.hd.but hb (by omega),h.inn.but hb (by have:=h.hKH;omega),h.low.trans ((hb.mono h.low.size).below (by have:=h.hH;omega)),h.hK,h.hH,h.hKH⟩
theorem TSt.alloc(h:TSt w0 w K H v rev fl s)(o:Obj):TSt w0 (w.alloc o) K H v rev fl s:=h.below ((Below.refl _ _).alloc NL _)
theorem TSt.drew(h:TSt w0 w K H v rev fl s):TSt w0 w.drew K H v rev fl s:=h.below (below_drewN (Below.refl _ _) 1)
theorem TSt.cells(h:TSt w0 w K H v rev fl s):(w.cell? ⟨H,0,none⟩=some (.int .i64 v)/\w.cell? ⟨H,1,none⟩=some (.int .u8 rev.toNat)/\w.cell? ⟨H,2,none⟩=some (.int .u8 fl.toNat))/\
 (w.cell? ⟨w0.heap.size,0,none⟩=some (.int .i64 0)/\w.cell? ⟨w0.heap.size,1,none⟩=some (.int .u8 0)/\w.cell? ⟨w0.heap.size,2,none⟩=some (.int .u8 0)/\w.cell? ⟨w0.heap.size,3,none⟩=some (.slice none 0 0))/\
 (w.cell? ⟨w0.heap.size+1,0,none⟩=some (.int .i64 0)/\w.cell? ⟨w0.heap.size+1,1,none⟩=some (.int .i64 0))/\
 ((∀j,w.frozen? ⟨w0.heap.size,j,none⟩=false)/\(∀j,w.frozen? ⟨w0.heap.size+1,j,none⟩=false)/\(∀j,w.frozen? ⟨H,j,none⟩=false))/\w0.heap.size+1<w.heap.size/\H<w.heap.size:=
 ⟨⟨h.hd.cell 0,h.hd.cell 1,h.hd.cell 2⟩,⟨h.r2.cell 0,h.r2.cell 1,h.r2.cell 2,h.r2.cell 3⟩,⟨h.r4.cell 0,h.r4.cell 1⟩,⟨h.r2.free,h.r4.free,h.hd.free⟩,h.r4.lt,h.hd.lt⟩
end
def ZsV{w:World}{g:Nat}{T:TypeId}{y u q j:Value}(h:Bx w g #[y,u,q,j] T)(a b c d:Value):Bx ((((w.setCell ⟨g,0,none⟩ a).setCell ⟨g,1,none⟩ b).setCell ⟨g,2,none⟩ c).setCell ⟨g,3,none⟩ d) g #[a,b,c,d] T:=by
 have h0:Bx (w.setCell ⟨g,0,none⟩ a) g #[a,u,q,j] T:=h.put 0 a;have D:Bx _ g #[a,b,q,j] T:=h0.put 1 b;have C:Bx _ g #[a,b,c,j] T:=D.put 2 c;exact C.put 3 d
def Bx.drew{w:World}{g:Nat}{cs:Array Value}{T:TypeId}(h:Bx w g cs T):Bx w.drew g cs T:=h
def ZbD{B:Nat}{a w:World}(h:Below B a w):Below B a w.drew:=below_drewN h 1
def Zal{w:World}{g:Nat}{T:TypeId}{q j:Value}(h:Bx w g #[q,j] T)(a b:Value):Bx ((w.setCell ⟨g,0,none⟩ a).setCell ⟨g,1,none⟩ b) g #[a,b] T:=by
 have h0:Bx (w.setCell ⟨g,0,none⟩ a) g #[a,j] T:=h.put 0 a;exact h0.put 1 b
def TSt.fin{w0 w:World}{K H:Nat}{v:Int}{rev fl:UInt8}{s:InS}(h:TSt w0 w K H v rev fl s)(a b c d x y:Value):
 Bx ((((((w.setCell ⟨w0.heap.size,0,none⟩ a).setCell ⟨w0.heap.size,1,none⟩ b).setCell ⟨w0.heap.size,2,none⟩ c).setCell ⟨w0.heap.size,3,none⟩ d).setCell ⟨w0.heap.size+1,0,none⟩ x).setCell ⟨w0.heap.size+1,1,none⟩ y) w0.heap.size #[a,b,c,d] 41/\
 Bx ((((((w.setCell ⟨w0.heap.size,0,none⟩ a).setCell ⟨w0.heap.size,1,none⟩ b).setCell ⟨w0.heap.size,2,none⟩ c).setCell ⟨w0.heap.size,3,none⟩ d).setCell ⟨w0.heap.size+1,0,none⟩ x).setCell ⟨w0.heap.size+1,1,none⟩ y) (w0.heap.size+1) #[x,y] 34/\
 Below w0.heap.size w0 ((((((w.setCell ⟨w0.heap.size,0,none⟩ a).setCell ⟨w0.heap.size,1,none⟩ b).setCell ⟨w0.heap.size,2,none⟩ c).setCell ⟨w0.heap.size,3,none⟩ d).setCell ⟨w0.heap.size+1,0,none⟩ x).setCell ⟨w0.heap.size+1,1,none⟩ y):=by
 have q:Bx w w0.heap.size #[.int .i64 0,.int .u8 0,.int .u8 0,.slice none 0 0] 41:=h.r2;refine⟨((ZsV q a b c d).set (k:=w0.heap.size+1) (by omega) 0 x).set (k:=w0.heap.size+1) (by omega) 1 y,Zal ((((h.r4.set (k:=w0.heap.size) (by omega) 0 a).set (k:=w0.heap.size) (by omega) 1 b).set (k:=w0.heap.size) (by omega) 2 c).set (k:=w0.heap.size) (by omega) 3 d) x y,?_⟩;exact(((((h.low.setCell (p:=⟨w0.heap.size,0,none⟩) NL a).setCell (p:=⟨w0.heap.size,1,none⟩) NL b).setCell (p:=⟨w0.heap.size,2,none⟩) NL c).setCell (p:=⟨w0.heap.size,3,none⟩) NL d).setCell (p:=⟨w0.heap.size+1,0,none⟩) (Nat.le_succ _) x).setCell (p:=⟨w0.heap.size+1,1,none⟩) (Nat.le_succ _) y
def Zk.set{α:Type}{f:α->List Value}{B:Nat}{w:World}{v:Value}{l:List α}(h:Zk f B w v l){g:Nat}(N:g<B)(j:Nat)(u:Value):Zk f B (w.setCell ⟨g,j,none⟩ u) v l:=by
 rcases h with h|⟨L,c,h0,J,I,y,D,C⟩
 ·exact .inl h
 ·exact .inr ⟨L,c,h0,J,I,y,by simpa using D,λi x q=>by rw[World.cell?_setCell_other _ _ _ _ (λe=>by injection e with e;omega)];exact C i x q⟩
def TSt.setFl{w0 w:World}{K H:Nat}{v:Int}{rev fl:UInt8}{s:InS}(h:TSt w0 w K H v rev fl s)(x:UInt8):TSt w0 (w.setCell ⟨H,2,none⟩ (.int .u8 x.toNat)) K H v rev x s:=
 ⟨h.r2.set (by have:=h.hH;omega) _ _,h.r4.set (by have:=h.hH;omega) _ _,h.hd.put 2 _,h.inn.set (by have:=h.hKH;omega) _ _,h.low.setCell (p:=⟨H,2,none⟩) (by have:=h.hH;simp;omega) _,h.hK,h.hH,h.hKH⟩
def keep4{w:World}{H g:Nat}(C:H≠g){x y z:Value}(h:w.cell? ⟨H,0,none⟩=some x/\w.cell? ⟨H,1,none⟩=some y/\w.cell? ⟨H,2,none⟩=some z)(a b c d:Value):
 ((((w.setCell ⟨g,0,none⟩ a).setCell ⟨g,1,none⟩ b).setCell ⟨g,2,none⟩ c).setCell ⟨g,3,none⟩ d).cell? ⟨H,0,none⟩=some x/\((((w.setCell ⟨g,0,none⟩ a).setCell ⟨g,1,none⟩ b).setCell ⟨g,2,none⟩ c).setCell ⟨g,3,none⟩ d).cell? ⟨H,1,none⟩=some y/\((((w.setCell ⟨g,0,none⟩ a).setCell ⟨g,1,none⟩ b).setCell ⟨g,2,none⟩ c).setCell ⟨g,3,none⟩ d).cell? ⟨H,2,none⟩=some z:=by
 have q:∀(w:World) (j i:Nat) (u:Value),(w.setCell ⟨g,j,none⟩ u).cell? ⟨H,i,none⟩=w.cell? ⟨H,i,none⟩:=λw j i u=>World.cell?_setCell_other _ _ _ _ (λe=>C (by injection e with e;exact e.symm));simp only[q];exact h
def keep2{w:World}{H g:Nat}(C:H≠g){x y z:Value}(h:w.cell? ⟨H,0,none⟩=some x/\w.cell? ⟨H,1,none⟩=some y/\w.cell? ⟨H,2,none⟩=some z)(a b:Value):
 ((w.setCell ⟨g,0,none⟩ a).setCell ⟨g,1,none⟩ b).cell? ⟨H,0,none⟩=some x/\((w.setCell ⟨g,0,none⟩ a).setCell ⟨g,1,none⟩ b).cell? ⟨H,1,none⟩=some y/\((w.setCell ⟨g,0,none⟩ a).setCell ⟨g,1,none⟩ b).cell? ⟨H,2,none⟩=some z:=by
 have q:∀(w:World) (j i:Nat) (u:Value),(w.setCell ⟨g,j,none⟩ u).cell? ⟨H,i,none⟩=w.cell? ⟨H,i,none⟩:=λw j i u=>World.cell?_setCell_other _ _ _ _ (λe=>C (by injection e with e;exact e.symm));simp only[q];exact h
def ZrA(t:List UInt8)(j:t.length<=1000000000)(w:World):
 Calls prog 17 #[.string (B t)] w λe w'=>∃K,e=.returned (.pointer (some ⟨K,0,none⟩))/\InAt w' K ⟨t,0,0,0,0⟩/\Below w.heap.size w w'/\w.heap.size<=K/\K<w'.heap.size:=
 (Zlh t j w).mono λ_ _ ⟨a,b,c,d⟩=>⟨_,a,b,c,Nat.le_refl _,by omega⟩
def Zr9(j:List UInt8)(hl:j.length<=900000000)(h3:j.take 3=Zu)(w:World):
 Calls prog 7 #[.string (B j)] w (ZfP w (ZS j)):=by
 have bC:3<=j.length:=by
  have:=congrArg List.length h3;rw[List.length_take,show Zu.length=3 from rfl] at this;omega
 obtain⟨hh,ax⟩:∃h,h=ZW ⟨j,0,0,0,0⟩:=⟨_,rfl⟩
 obtain⟨v,hv⟩:∃v:Nat,v=hh.1.1:=⟨_,rfl⟩
 obtain⟨rev,aq⟩:∃x,x=hh.1.2.1:=⟨_,rfl⟩
 obtain⟨fl,bh⟩:∃x,x=hh.1.2.2:=⟨_,rfl⟩
 obtain⟨n,hn⟩:∃n,n=hh.2.safe:=⟨_,rfl⟩
 obtain⟨b,hb⟩:∃b,b=n.2.take n.1:=⟨_,rfl⟩
 obtain⟨body,aj⟩:∃body,body=if ZcV v fl then Zae false b.1 else b.1:=⟨_,rfl⟩
 obtain⟨l,be⟩:∃l,l=Zcx v (ZJ fl) (Zbu v fl ⟨body,0,10,0,0⟩):=⟨_,rfl⟩
 obtain⟨r,hr⟩:∃r,r=if ZbZ v fl then(((b.2.want ZaB).2).want ((j.take 10).drop 3)).2 else b.2:=⟨_,rfl⟩
 have hR:ZS j=if b.2.e≠0 then .error (b.2.e,b.2.a) else if l.2.e≠0 then .error (l.2.e,l.2.a) else if r.e≠0 then .error (r.e,r.a) else .ok (some ⟨v,rev,fl&&& ~~~0x40,l.1⟩,r.rest.1):=by
  subst hr be aj hb hn bh aq hv ax;unfold ZS;rw[if_neg (by simpa using h3)]
 have Y:b.2.e=0->10<=b.2.n/\b.2.t=j/\b.1.length<=j.length:=by
  intro h0;have k1:=InS.take_ok n.2 n.1 (by rw[<-hb];exact h0);have k2:=InS.safe_ok hh.2 (by rw[<-hn];exact k1.1);have k3:=Zum ⟨j,0,0,0,0⟩ (by rw[<-ax];exact k2.1);rw[<-hb] at k1;rw[<-hn] at k2;rw[<-ax] at k3;have ht:n.2.t=j:=by rw[k2.2.2,k3.2.2]
  refine⟨by have:=k3.2.1;simp only at this;omega,by rw[k1.2.2,ht],?_⟩;rw[<-ht,hb];unfold InS.take;split
  ·simp
  ·split
   ·simp
   ·simp;omega
 generalize hP:ZfP w (ZS j)=P at*;have cS:=Zj j;have he:(B j).extract 0 3=B [73,68,51]:=by rw[ZgG];congr 1
 have hq:((B [73,68,51]).toList==[73,68,51])=true:=by rw[seqB];rfl
 have cU:((B [73,68,51]).toList !=[73,68,51])=false:=by rw[bne,hq];rfl
 have cT:(B [73,68,51]).toList=[73,68,51]:=Zjn _;have b6:¬(j.length:Int)<3:=by omega
 have bB:=λw=>ZrA j (by omega) w;have bE:∀K w,InAt w K ⟨j,0,0,0,0⟩->Calls prog 18 #[.pointer (some ⟨K,0,none⟩)] w λe w'=>e=.returned (.agg #[.int .i64 v,.int .u8 rev.toNat,.int .u8 fl.toNat])/\InAt w' K hh.2/\But K w.heap.size w w':=by
  intro K w h;have:=Zqz K _ w h;rw[<-ax] at this;rw[hv,aq,bh];exact this
 have aY:=λK w h=>ZgU K hh.2 w h;rw[<-hn] at aY;have b5:=ZhM hh.2;rw[<-hn] at b5;have aX:=λK w h=>Zdo K n.2 n.1 (by omega) (by omega) w h;rw[Int.toNat_natCast,<-hb] at aX;unfold Zh at aY aX;have bG:=λK w h=>Zc0 K b.2 w h;have an:=QQ aj;have cv:=QQ be;have Hr:=QQ hr;have HR:=QQ hR;have bS:=QQ Y;clear ax hv aq bh hn hb aj be hr hR Y h3 bC;generalize n.1=nn at*;by_cases hE:b.2.e=0
 ·have q:=HR.out;rw[if_neg (by simpa using hE)] at q;obtain⟨cF,bz,cZ⟩:=bS.out hE;have a8:=QQ q;have cu:=QQ bz;have bi:=λw=>ZG (b.2.e:Int) b.2.a (by omega) w;have bv:=λw=>Zly (v:Int) rev fl w;rw[Int.toNat_natCast] at bv;clear q hE bz;go_enter func7,ntmps7
  go_upto_if 39 with(first
   |(go_at_call 17;refine(bB _).mono ?_;rintro e w1 ⟨K,rfl,h1,ad,bj,cb⟩;have H1:=QQ h1;have L1:=QQ (ZiD ad);simp only[World.size_alloc] at bj;have RA:=QQ (Bx.below ((Bx.new w zTag 41).alloc _) ad);have RB:Hid (Bx w1 (w.heap.size+1) #[.int .i64 0,.int .i64 0] 34):=QQ (Bx.below (by have:=Bx.new (w.alloc (.cells zTag 41)) #[.int .i64 0,.int .i64 0] 34;rw[World.size_alloc] at this;exact this) ad);clear h1 ad)
   |(go_at_call 18;refine(bE _ _ H1.out).mono ?_;rintro e w2 ⟨rfl,h2,O⟩;have ST:Hid (TSt w (w2.alloc (.cells (three v rev fl) 38)) K w2.heap.size v rev fl hh.2):=QQ ⟨(RA.but O (by omega)).alloc _,(RB.but O (by omega)).alloc _,Bx.new w2 _ _,h2.alloc _,(L1.trans ((O.mono L1.size).below (by omega))).alloc (by have:=L1.size;have:=O.size;omega) _,by omega,by have:=O.size;omega,by have:=O.size;omega⟩;clear h2 O;obtain⟨⟨X,d1,d2⟩,⟨C,y,r2,u⟩,⟨I,D⟩,⟨W,V,U⟩,L,J⟩:=ST.cells)
   |(go_at_call 20;refine(aY _ _ ST.inn).mono ?_;rintro e w3 ⟨rfl,h3,aC⟩;have aU:=QQ (ST.butK h3 aC);clear h3 aC)
   |(go_at_call 19;refine(aX _ _ aU.inn).mono ?_;rintro e w4 ⟨rfl,h4,aB⟩;have aT:=QQ (aU.butK h4 aB);clear h4 aB)
   |(go_at_call 21;refine MR (bG _ _ aT.inn) λw5 aA=>?_;have a4:=QQ (aT.below aA);clear aA)
   |(go_at_call 8;refine MR (bi _) λw6 ao=>?_;have aS:=QQ ((a4.alloc _).below ao);clear ao X d1 d2 C y r2 u I D W V U L J;obtain⟨⟨X,d1,d2⟩,⟨C,y,r2,u⟩,⟨I,D⟩,⟨W,V,U⟩,L,J⟩:=aS.cells)
   |(go_at_call 22;refine MR (bv _) λw7 bI=>?_;have bk:=QQ (aS.below bI);clear bI X d1 d2 C y r2 u I D W V U L J;obtain⟨⟨X,d1,d2⟩,⟨C,y,r2,u⟩,⟨I,D⟩,⟨W,V,U⟩,L,J⟩:=bk.cells))
  have bU:body.length<=900000000:=by
   rw[an.out];split
   ·have:=Ze7 false b.1;omega
   ·omega
  go_cut [7] (λs7 wx=>s7=.string (B body)/\TSt w wx K w2.heap.size v rev fl b.2)
  case first=>
   have bH:=λw=>ZkQ b.1 (by omega) w;cases hW:ZcV v fl with
   |true=>
    have N:=an.out;rw[hW,if_pos rfl] at N;rw[<-N] at bH;clear N;go_wp2_with (go_at_call 23;refine MR (bH _) λw8 am=>?_)
    go_meet
    exact⟨rfl,bk.below am⟩
   |false=>
    have N:=an.out;rw[hW,if_neg (by decide)] at N;have bp:=QQ N;clear N;go_wp2_with fail
    go_meet
    exact⟨by rw[bp.out],bk.out⟩
  obtain⟨rfl,hcut⟩:=hcut;have aR:=QQ hcut;have hKH:=aR.hKH;have c0:=aR.hH;clear hcut X d1 d2 C y r2 u I D W V U L J;obtain⟨⟨X,d1,d2⟩,⟨C,y,r2,u⟩,⟨I,D⟩,⟨W,V,U⟩,L,J⟩:=aR.cells;have bf:=λw=>Zk1 body 10 (by decide) (by omega) w;rw[show(10:Int).toNat=10 from rfl] at bf;have bd:∀K2 w,InAt w K2 ⟨body,0,10,0,0⟩->Calls prog 25 #[.agg #[.int .i64 v,.int .u8 rev.toNat,.int .u8 fl.toNat],.pointer (some ⟨K2,0,none⟩)] w (ZgX K2 w (Zbu v fl ⟨body,0,10,0,0⟩)):=by
   intro K2 w h;have:=ZrX K2 _ (v:Int) rev fl w h
   rwa [Int.toNat_natCast] at this
  have bg:∀K2 w,InAt w K2 (Zbu v fl ⟨body,0,10,0,0⟩)->Calls prog 26 #[.agg #[.int .i64 v,.int .u8 rev.toNat,.int .u8 fl.toNat],.pointer (some ⟨K2,0,none⟩)] w (ZgO K2 w l):=by
   intro K2 w h;have:=Zqx K2 _ (v:Int) rev fl w h;rw[Int.toNat_natCast,<-cv.out] at this;exact this
  unfold ZgX at bd;unfold ZgO at bg;have a5:=λK2 w h=>Zc0 K2 l.2 w h;generalize Zbu v fl ⟨body,0,10,0,0⟩=sk at*;by_cases aI:l.2.e=0
  ·have q:=a8.out;rw[if_neg (by simpa using aI)] at q;have a7:=QQ q;have az:=λw=>ZG (l.2.e:Int) l.2.a (by omega) w;have bF:=λw=>Zlu (v:Int) rev fl w;rw[Int.toNat_natCast] at bF;clear q aI
   go_upto_if 57 with(first
    |(go_at_call 24;refine(bf _).mono ?_;rintro e w8 ⟨K2,rfl,aw,am,b8,b7⟩;have aQ:=QQ (aR.below am);have I8:=QQ aw;have bD:w2.heap.size<K2:=(by omega);clear aw am X d1 d2 C y r2 u I D W V U L J;obtain⟨⟨X,d1,d2⟩,⟨C,y,r2,u⟩,⟨I,D⟩,⟨W,V,U⟩,L,J⟩:=aQ.cells)
    |(go_at_call 25;refine(bd _ _ I8.out).mono ?_;rintro e w9 ⟨rfl,au,ak⟩;have aP:=QQ (aQ.butO ak (by omega));have I9:=QQ au;have b1:=ak.size;clear au ak X d1 d2 C y r2 u I D W V U L J;obtain⟨⟨X,d1,d2⟩,⟨C,y,r2,u⟩,⟨I,D⟩,⟨W,V,U⟩,L,J⟩:=aP.cells)
    |(go_at_call 26;refine(bg _ _ I9.out).mono ?_;rintro e bX ⟨vl,rfl,ai,ae,Y⟩;obtain⟨A9,c9,ap,b9⟩:=ai.len;subst ap;have aO:=QQ (aP.butO Y (by omega));have bo:=QQ ae;have bm:=QQ ai;clear ae Y ai X d1 d2 C y r2 u I D W V U L J)
    |(go_at_call 21;refine MR (a5 _ _ bo.out) λbu ab=>?_;have a3:=QQ (aO.below ab);have bR:=QQ (bm.below ab);clear ab)
    |(go_at_call 8;refine MR (az _) λbW aa=>?_;have aN:=QQ ((a3.alloc _).below aa);have cn:=QQ ((bR.below ((Below.refl _ _).alloc NL _)).below aa);clear aa;obtain⟨⟨X,d1,d2⟩,⟨C,y,r2,u⟩,⟨I,D⟩,⟨W,V,U⟩,L,J⟩:=aN.cells)
    |(go_at_call 27;refine MR (bF _) λcP aG=>?_;have aM:=QQ (aN.below aG);have bQ:=QQ (cn.below aG);clear aG X d1 d2 C y r2 u I D W V U L J;obtain⟨⟨X,d1,d2⟩,⟨C,y,r2,u⟩,⟨I,D⟩,⟨W,V,U⟩,L,J⟩:=aM.cells))
   go_cut [] (λwx=>TSt w wx K w2.heap.size v rev fl r/\Zk frV w9.heap.size wx (.slice A9 l.1.length c9) l.1)
   case first=>
    cases hF:ZbZ v fl with
    |true=>
     have N:=Hr.out;rw[hF,if_pos rfl] at N;have bc:=λw h=>Ziv K b.2 ZaB (by decide) w h;have bb:=λw h=>Ziv K (b.2.want ZaB).2 ((j.take 10).drop 3) (by simp;omega) w h;rw[<-N] at bb;have cY:(B j).extract 3 10=B ((j.take 10).drop 3):=by rw[ZgG]
     have cW:10<=j.length:=by have:=aM.inn.fits;rw[cu.out] at this;omega
     unfold Zh at bc bb;have b2:∀w,InAt w K b.2->Calls prog 28 #[.pointer (some ⟨K,0,none⟩),.string ⟨#[51,68,73]⟩] w λe w'=>e=.returned (.bool (b.2.want ZaB).1)/\InAt w' K (b.2.want ZaB).2/\But K w.heap.size w w':=bc;clear N bc;generalize (b.2.want ZaB)=sw at*;generalize (j.take 10).drop 3=cR at*;go_wp2_with (first
      |(go_at_call 28;((with_reducible refine(b2 _ aM.out.inn).mono ?_);rintro e cO ⟨rfl,bN,aF⟩;have bP:=QQ (aM.out.butK bN aF);have cm:=QQ (bQ.out.but aF (by omega));clear bN aF))
      |(go_at_call 28;((with_reducible refine(bb _ bP.out.inn).mono ?_);rintro e cN ⟨rfl,bM,aE⟩;have cd:=QQ (bP.out.butK bM aE);have ck:=QQ (cm.out.but aE (by omega));clear bM aE)))
     go_meet
     exact⟨cd.out,ck.out⟩
    |false=>
     have N:=Hr.out;rw[hF,if_neg (by decide)] at N;have bp:=QQ N;clear N;go_wp2_with fail
     go_meet
     rw[bp.out];exact⟨aM.out,bQ.out⟩
   have aL:=QQ hcut.1;have cj:=QQ hcut.2;clear hcut X d1 d2 C y r2 u I D W V U L J;obtain⟨⟨X,d1,d2⟩,⟨C,y,r2,u⟩,⟨I,D⟩,⟨W,V,U⟩,L,J⟩:=aL.cells;have a6:=λw h=>Zc0 K r w h;by_cases aH:r.e=0
   ·have q:=a7.out;rw[if_neg (by simpa using aH)] at q;have bT:=QQ q;have ay:=λw=>ZG (r.e:Int) r.a (by omega) w;have bA:=λw h=>ZeU K r w h;unfold Zh at bA;obtain⟨x8,ba⟩:∃x8,x8=fl&&& ~~~(64:UInt8):=⟨_,rfl⟩
    have ca:=Zg2 fl 64 64 rfl;rw[<-ba] at ca;have ct:=QQ ba;clear q aH ba;go_wp2_with (first
     |(go_at_call 21;refine MR (a6 _ aL.inn) λbt ac=>?_;have a2:=QQ (aL.below ac);have ci:=QQ (cj.below ac);clear ac)
     |(go_at_call 8;refine MR (ay _) λbs Z=>?_;have aK:=QQ ((a2.alloc _).below Z);have ch:=QQ ((ci.below ((Below.refl _ _).alloc NL _)).below Z);clear Z X d1 d2 C y r2 u I D W V U L J;obtain⟨⟨X,d1,d2⟩,⟨C,y,r2,u⟩,⟨I,D⟩,⟨W,V,U⟩,L,J⟩:=aK.cells))
    have a1:=QQ (aK.setFl x8);have cg:=QQ (ch.set (g:=w2.heap.size) (by omega) 2 (.int .u8 x8.toNat));generalize bs.setCell ⟨w2.heap.size,2,none⟩ (.int .u8 x8.toNat)=wk at*;clear X d1 d2 C y r2 u I D W V U L J;have cX:=a1.hd.lt;go_region_held3 (λw'=>w'.cell? ⟨w2.heap.size,0,none⟩=some (.int .i64 v)/\w'.cell? ⟨w2.heap.size,1,none⟩=some (.int .u8 rev.toNat)/\w'.cell? ⟨w2.heap.size,2,none⟩=some (.int .u8 x8.toNat))
     (first|with_reducible exact a1.out.drew.cells.1|with_reducible exact aJ.out.cells.1|with_reducible exact keep4 (by omega) aJ.out.cells.1 _ _ _ _|with_reducible exact keep2 (by omega) (keep4 (by omega) aJ.out.cells.1 _ _ _ _) _ _)
     (first
      |(go_at_call 29;refine(bA _ a1.drew.inn).mono ?_;rintro e cM ⟨rfl,bL,aD⟩;have aJ:=QQ (a1.drew.butK bL aD);have ce:=QQ ((cg.below (ZbD (Below.refl _ _))).but aD (by omega));clear bL aD;obtain⟨⟨X,d1,d2⟩,⟨C,y,r2,u⟩,⟨I,D⟩,⟨W,V,U⟩,L,J⟩:=aJ.cells))
    all_goals
     go_wp2_with fail
     have F:=aJ.fin (.int .i64 v) (.int .u8 rev.toNat) (.int .u8 x8.toNat) (.slice A9 l.1.length c9) (.int .i64 0) (.int .i64 0);refine bodyPost_ret (Zgn rfl _ _ w.heap.size (w.heap.size+1) _ _ _ _ _ _ _ _ _ rfl rfl rfl F.1 F.2.1 underlying41 rfl (by kernel_rfl) underlying34 rfl (by kernel_rfl)) rfl ?_;rw[<-hP,bT.out];exact⟨F.2.2,_,by rw[ct.out];rfl,(((((((ce.set (g:=w.heap.size) (by omega) 0 _).set (g:=w.heap.size) (by omega) 1 _).set (g:=w.heap.size) (by omega) 2 _).set (g:=w.heap.size) (by omega) 3 _).set (g:=w.heap.size+1) (by omega) 0 _).set (g:=w.heap.size+1) (by omega) 1 _)).low (by omega)⟩
   ·have q:=a7.out;rw[if_pos aH] at q;have aV:=QQ q;have ay:=λw=>ZV (r.e:Int) r.a (by omega) w;have bq:=QQ aH;clear q aH;go_wp2_with (first
     |(go_at_call 21;refine MR (a6 _ aL.inn) λbt ac=>?_;have a2:=QQ (aL.below ac);clear ac)
     |(go_at_call 8;refine MR (ay _) λbs Z=>?_;have aK:=QQ ((a2.alloc _).below Z);have BX:=QQ ((Bx.new bt _ _).below Z);clear Z X d1 d2 C y r2 u I D W V U L J;obtain⟨⟨X,d1,d2⟩,⟨C,y,r2,u⟩,⟨I,D⟩,⟨W,V,U⟩,L,J⟩:=aK.cells;have x0:=BX.cell 0;have x1:=BX.cell 1;have xl:=BX.lt;have bw:=a2.r4.lt))
    go_region
    all_goals
     go_wp2_with fail
     have F:=aK.fin (.int .i64 0) (.int .u8 0) (.int .u8 0) (.slice none 0 0) (.int .i64 r.e) (.int .i64 r.a);refine bodyPost_ret (Zgn rfl _ _ w.heap.size (w.heap.size+1) _ _ _ _ _ _ _ _ _ rfl rfl rfl F.1.drew F.2.1.drew underlying41 rfl (by kernel_rfl) underlying34 rfl (by kernel_rfl)) rfl ?_;rw[<-hP,aV.out];exact⟨ZbD F.2.2,rfl,bq.out⟩
  ·have q:=a8.out;rw[if_pos aI] at q;have aV:=QQ q;have az:=λw=>ZV (l.2.e:Int) l.2.a (by omega) w;have bq:=QQ aI;clear q aI;go_wp2_with (first
    |(go_at_call 24;refine(bf _).mono ?_;rintro e w8 ⟨K2,rfl,aw,am,b8,b7⟩;have aQ:=QQ (aR.below am);have I8:=QQ aw;have bD:w2.heap.size<K2:=(by omega);clear aw am X d1 d2 C y r2 u I D W V U L J;obtain⟨⟨X,d1,d2⟩,⟨C,y,r2,u⟩,⟨I,D⟩,⟨W,V,U⟩,L,J⟩:=aQ.cells)
    |(go_at_call 25;refine(bd _ _ I8.out).mono ?_;rintro e w9 ⟨rfl,au,ak⟩;have aP:=QQ (aQ.butO ak (by omega));have I9:=QQ au;have b1:=ak.size;clear au ak X d1 d2 C y r2 u I D W V U L J;obtain⟨⟨X,d1,d2⟩,⟨C,y,r2,u⟩,⟨I,D⟩,⟨W,V,U⟩,L,J⟩:=aP.cells)
    |(go_at_call 26;refine(bg _ _ I9.out).mono ?_;rintro e bX ⟨vl,rfl,ai,ae,Y⟩;obtain⟨A9,c9,ap,b9⟩:=ai.len;subst ap;have aO:=QQ (aP.butO Y (by omega));have bo:=QQ ae;have bm:=QQ ai;clear ae Y ai X d1 d2 C y r2 u I D W V U L J)
    |(go_at_call 21;refine MR (a5 _ _ bo.out) λbu ab=>?_;have a3:=QQ (aO.below ab);have bR:=QQ (bm.below ab);clear ab)
    |(go_at_call 8;refine MR (az _) λbW aa=>?_;have aN:=QQ ((a3.alloc _).below aa);have BX:=QQ ((Bx.new bu _ _).below aa);clear aa;obtain⟨⟨X,d1,d2⟩,⟨C,y,r2,u⟩,⟨I,D⟩,⟨W,V,U⟩,L,J⟩:=aN.cells;have x0:=BX.cell 0;have x1:=BX.cell 1;have xl:=BX.lt;have bw:=a3.r4.lt))
   go_region
   all_goals
    go_wp2_with fail
    have F:=aN.fin (.int .i64 0) (.int .u8 0) (.int .u8 0) (.slice none 0 0) (.int .i64 l.2.e) (.int .i64 l.2.a);refine bodyPost_ret (Zgn rfl _ _ w.heap.size (w.heap.size+1) _ _ _ _ _ _ _ _ _ rfl rfl rfl F.1.drew F.2.1.drew underlying41 rfl (by kernel_rfl) underlying34 rfl (by kernel_rfl)) rfl ?_;rw[<-hP,aV.out];exact⟨ZbD F.2.2,rfl,bq.out⟩
 ·have q:=HR.out;rw[if_pos hE] at q;have aV:=QQ q;have bi:=λw=>ZV (b.2.e:Int) b.2.a (by omega) w;have HE:=QQ hE;clear q hE;go_enter func7,ntmps7
  go_wp2_with (first
   |(go_at_call 17;refine(bB _).mono ?_;rintro e w1 ⟨K,rfl,h1,ad,bj,cb⟩;have H1:=QQ h1;have L1:=QQ (ZiD ad);simp only[World.size_alloc] at bj;have RA:=QQ (Bx.below ((Bx.new w zTag 41).alloc _) ad);have RB:Hid (Bx w1 (w.heap.size+1) #[.int .i64 0,.int .i64 0] 34):=QQ (Bx.below (by have:=Bx.new (w.alloc (.cells zTag 41)) #[.int .i64 0,.int .i64 0] 34;rw[World.size_alloc] at this;exact this) ad);clear h1 ad)
   |(go_at_call 18;refine(bE _ _ H1.out).mono ?_;rintro e w2 ⟨rfl,h2,O⟩;have ST:Hid (TSt w (w2.alloc (.cells (three v rev fl) 38)) K w2.heap.size v rev fl hh.2):=QQ ⟨(RA.but O (by omega)).alloc _,(RB.but O (by omega)).alloc _,Bx.new w2 _ _,h2.alloc _,(L1.trans ((O.mono L1.size).below (by omega))).alloc (by have:=L1.size;have:=O.size;omega) _,by omega,by have:=O.size;omega,by have:=O.size;omega⟩;clear h2 O;obtain⟨⟨X,d1,d2⟩,⟨C,y,r2,u⟩,⟨I,D⟩,⟨W,V,U⟩,L,J⟩:=ST.cells)
   |(go_at_call 20;refine(aY _ _ ST.inn).mono ?_;rintro e w3 ⟨rfl,h3,aC⟩;have aU:=QQ (ST.butK h3 aC);clear h3 aC)
   |(go_at_call 19;refine(aX _ _ aU.inn).mono ?_;rintro e w4 ⟨rfl,h4,aB⟩;have aT:=QQ (aU.butK h4 aB);clear h4 aB)
   |(go_at_call 21;refine MR (bG _ _ aT.inn) λw5 aA=>?_;have a4:=QQ (aT.below aA);clear aA)
   |(go_at_call 8;refine MR (bi _) λw6 ao=>?_;have aS:=QQ ((a4.alloc _).below ao);have BX:=QQ ((Bx.new w5 _ _).below ao);clear ao X d1 d2 C y r2 u I D W V U L J;obtain⟨⟨X,d1,d2⟩,⟨C,y,r2,u⟩,⟨I,D⟩,⟨W,V,U⟩,L,J⟩:=aS.cells;have x0:=BX.cell 0;have x1:=BX.cell 1;have xl:=BX.lt;have bw:=a4.r4.lt))
  go_region
  all_goals
   go_wp2_with fail
   have F:=aS.fin (.int .i64 0) (.int .u8 0) (.int .u8 0) (.slice none 0 0) (.int .i64 b.2.e) (.int .i64 b.2.a);refine bodyPost_ret (Zgn rfl _ _ w.heap.size (w.heap.size+1) _ _ _ _ _ _ _ _ _ rfl rfl rfl F.1.drew F.2.1.drew underlying41 rfl (by kernel_rfl) underlying34 rfl (by kernel_rfl)) rfl ?_;rw[<-hP,aV.out];exact⟨ZbD F.2.2,rfl,HE.out⟩
def Zis(j:List UInt8)(q:j.length<=900000000)(w:World):
 Calls prog 7 #[.string (B j)] w (ZfP w (ZS j)):=by
 by_cases u:j.take 3=Zu
 ·exact Zr9 j q u w
 ·exact Zr8 j q u w
