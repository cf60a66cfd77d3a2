/- Lemmas for a statement on the tops; conditions: as each says. -/
import Derived.Laws.BitsAllLaws
import Derived.Test.YtjilfbhkdjanhaaGreatDoorM12
set_option linter.all false
set_option maxRecDepth 100000
set_option maxHeartbeats 4000000
open Go.Proofs.Tryz
namespace Go.Proofs.YtjilfbhkdjanhaaGreatDoor
open Go Go.RowKit
def zero6:Array Value:=#[.string ⟨#[]⟩,.int .u8 0,.int .u8 0,.int .u8 0,.string ⟨#[]⟩,.int .i64 0]
def ZfM(K:Nat)(w:World)(r:Option Fr×InS)(e:Ending)(w':World):Prop:=InAt w' K r.2/\But K w.heap.size w w'/\match r.1 with
 |none=>e=.returned (.tuple #[.agg #[.string ⟨#[]⟩,.int .u8 0,.int .u8 0,.int .u8 0,.string ⟨#[]⟩,.int .i64 0],.bool false])
 |some f=>e=.returned (.tuple #[.agg #[.string (B f.id),.int .u8 f.st.toNat,.int .u8 f.fm.toNat,.int .u8 f.grp.toNat,.string (B f.body),.int .i64 f.at_],.bool true])
structure PSt (w0 wx:World)(K R F:Nat)(f:Fr)(s:InS):Prop where
 frame:Zq wx F f
 inn:InAt wx K s
 res:Bx wx R zero6 114
 but:But K w0.heap.size w0 wx
 hK:K<w0.heap.size
 hR:R=w0.heap.size
 hF:R<F
section
variable {w0 w w':World} {F R K:Nat} {f:Fr} {s s':InS}
theorem PSt.below(h:PSt w0 w K R F f s)(hb:Below w.heap.size w w'):PSt w0 w' K R F f s:=
 ⟨h.frame.below hb,h.inn.below hb,h.res.below hb,h.but.trans (.of (hb.mono h.but.size)),h.hK,h.hR,h.hF⟩
theorem PSt.butK(h:PSt w0 w K R F f s)(j:InAt w' K s')(hb:But K w.heap.size w w'):PSt w0 w' K R F f s':=
 ⟨h.frame.but hb (by have:=h.hF;have:=h.hR;have:=h.hK;omega),j,h.res.but hb (by have:=h.hK;have:=h.hR;omega),h.but.trans (hb.mono h.but.size),h.hK,h.hR,h.hF⟩
theorem PSt.alloc(h:PSt w0 w K R F f s)(o:Obj):PSt w0 (w.alloc o) K R F f s:=h.below ((Below.refl _ _).alloc NL _)
theorem PSt.set(h:PSt w0 w K R F f s){j:Nat}{v:Value}{q:Fr}(u:Zq (w.setCell ⟨F,j,none⟩ v) F q):PSt w0 (w.setCell ⟨F,j,none⟩ v) K R F q s:=
 ⟨u,h.inn.set (by have:=h.hF;have:=h.hR;have:=h.hK;omega) _ _,h.res.set (by have:=h.hF;omega) _ _,h.but.setCell (p:=⟨F,j,none⟩) (.inl (by have:=h.hF;have:=h.hR;simp;omega)) _,h.hK,h.hR,h.hF⟩
theorem PSt.cells(h:PSt w0 w K R F f s):(w.cell? ⟨F,0,none⟩=some (.string (B f.id))/\w.cell? ⟨F,1,none⟩=some (.int .u8 f.st.toNat)/\w.cell? ⟨F,2,none⟩=some (.int .u8 f.fm.toNat)/\w.cell? ⟨F,3,none⟩=some (.int .u8 f.grp.toNat)/\w.cell? ⟨F,4,none⟩=some (.string (B f.body))/\w.cell? ⟨F,5,none⟩=some (.int .i64 f.at_))/\
 (w.cell? ⟨R,0,none⟩=some (.string ⟨#[]⟩)/\w.cell? ⟨R,1,none⟩=some (.int .u8 0)/\w.cell? ⟨R,2,none⟩=some (.int .u8 0)/\w.cell? ⟨R,3,none⟩=some (.int .u8 0)/\w.cell? ⟨R,4,none⟩=some (.string ⟨#[]⟩)/\w.cell? ⟨R,5,none⟩=some (.int .i64 0))/\(∀j,w.frozen? ⟨F,j,none⟩=false)/\(∀j,w.frozen? ⟨R,j,none⟩=false)/\F<w.heap.size/\R<w.heap.size:=
 ⟨h.frame.get,⟨h.res.cell 0,h.res.cell 1,h.res.cell 2,h.res.cell 3,h.res.cell 4,h.res.cell 5⟩,h.frame.free,h.res.free,h.frame.lt,h.res.lt⟩
end
def Zq.setId{w:World}{F:Nat}{f:Fr}(h:Zq w F f)(b:List UInt8):Zq (w.setCell ⟨F,0,none⟩ (.string (B b))) F {f with id:=b}:=by
 unfold Zq;rw[heap_setCell_same w F 0 _ _ _ h];rfl
def Zq.setSt{w:World}{F:Nat}{f:Fr}(h:Zq w F f)(g:UInt8)(z:Int)(j:z=g.toNat):Zq (w.setCell ⟨F,1,none⟩ (.int .u8 z)) F {f with st:=g}:=by
 subst j;unfold Zq;rw[heap_setCell_same w F 1 _ _ _ h];rfl
def Zq.setFm{w:World}{F:Nat}{f:Fr}(h:Zq w F f)(g:UInt8)(z:Int)(j:z=g.toNat):Zq (w.setCell ⟨F,2,none⟩ (.int .u8 z)) F {f with fm:=g}:=by
 subst j;unfold Zq;rw[heap_setCell_same w F 2 _ _ _ h];rfl
def results_cell_tmp{P:Program}{fn:Func}{p t:Tmp}{ty:TypeId}(h:fn.results=#[.cell p ty,.tmp t])(tmps:Array Value)(w:World)(g:Nat)(T:TypeId)(cs:Array Value)(fr:Nat×Nat)(d:TypeDesc)(u:Value)
 (D:tmps.getD p undef=.pointer (some ⟨g,0,none⟩)) (C:tmps.getD t undef=u) (J:w.heap[g]?=some (.cells cs T fr))
 (y:P.underlying ty=some d) (hd:(match d with| .struct _| .array _ _=>true|_=>false)=true) (I:(P.info? ty).map (·.size)=some cs.size):
 (results fn tmps).run P w=.ok (.tuple #[.agg cs,u]) w:=by
 have q:tmps[p]?.getD undef=.pointer (some ⟨g,0,none⟩):=by simpa using D
 have j:tmps[t]?.getD undef=u:=by simpa using C
 simp[results,h,q,j,asAddr,run_loadVar_row w g T ty cs fr d J y hd I]
def Bx.zero6{w:World}{g:Nat}{T:TypeId}{D C y u q j:Value}(h:Bx w g #[D,C,y,u,q,j] T)(a b c d e f:Value):Bx ((((((w.setCell ⟨g,0,none⟩ a).setCell ⟨g,1,none⟩ b).setCell ⟨g,2,none⟩ c).setCell ⟨g,3,none⟩ d).setCell ⟨g,4,none⟩ e).setCell ⟨g,5,none⟩ f) g #[a,b,c,d,e,f] T:=by
 have h0:Bx (w.setCell ⟨g,0,none⟩ a) g #[a,C,y,u,q,j] T:=h.put 0 a;have N:Bx _ g #[a,b,y,u,q,j] T:=h0.put 1 b;have L:Bx _ g #[a,b,c,u,q,j] T:=N.put 2 c;have J:Bx _ g #[a,b,c,d,q,j] T:=L.put 3 d;have I:Bx _ g #[a,b,c,d,e,j] T:=J.put 4 e;exact I.put 5 f
def But.set6{C B:Nat}{a w:World}(h:But C B a w){g:Nat}(j:B<=g)(q b c d e f:Value):But C B a ((((((w.setCell ⟨g,0,none⟩ q).setCell ⟨g,1,none⟩ b).setCell ⟨g,2,none⟩ c).setCell ⟨g,3,none⟩ d).setCell ⟨g,4,none⟩ e).setCell ⟨g,5,none⟩ f):=
 (((((h.setCell (p:=⟨g,0,none⟩) (.inl j) q).setCell (p:=⟨g,1,none⟩) (.inl j) b).setCell (p:=⟨g,2,none⟩) (.inl j) c).setCell (p:=⟨g,3,none⟩) (.inl j) d).setCell (p:=⟨g,4,none⟩) (.inl j) e).setCell (p:=⟨g,5,none⟩) (.inl j) f
def InAt.set6{w:World}{K:Nat}{s:InS}(h:InAt w K s){g:Nat}(j:K≠g)(q b c d e f:Value):InAt ((((((w.setCell ⟨g,0,none⟩ q).setCell ⟨g,1,none⟩ b).setCell ⟨g,2,none⟩ c).setCell ⟨g,3,none⟩ d).setCell ⟨g,4,none⟩ e).setCell ⟨g,5,none⟩ f) K s:=
 (((((h.set j 0 q).set j 1 b).set j 2 c).set j 3 d).set j 4 e).set j 5 f
def Zqh(K:Nat)(s:InS)(v:Int)(sp:Bool)(w:World)(h:InAt w K s)(V:Zs v.toNat=0\/s.e≠0\/s.left=0\/s.peek 1=[0]):
 Calls prog 58 #[.int .i64 v,.pointer (some ⟨K,0,none⟩),.bool sp] w (ZfM K w (Zbg v.toNat s sp)):=by
 have hR:Zbg v.toNat s sp=(none,s):=by unfold Zbg;rw[if_pos V]
 rw[hR];generalize hP:ZfM K w (none,s)=P at*;have y:=λw=>ZfG v w;have H:=QQ h;have O:=λw h=>Zc0 K s w h;have N:=λw h=>Zig K s w h;have Y:=λw h=>Zld K s 1 w h (by omega);have aD:=h.lt;clear h hR;by_cases h0:Zs v.toNat=0
 ·rw[h0] at y;clear h0 V;go_enter func58,ntmps58
  go_wp2_with (go_at_call 50;refine(y _).mono ?_;rintro e w1 ⟨rfl,rfl⟩)
  have L:=Bx.new w zero6 114;refine bodyPost_ret (results_cell_tmp rfl _ _ w.heap.size _ _ _ _ _ rfl rfl L underlying114 rfl (by kernel_rfl)) rfl ?_;rw[<-hP];exact⟨H.alloc _,(But.refl _ _ _).alloc NL _,rfl⟩
 ·have aC:0<Zs v.toNat:=by omega
  by_cases h1:s.e=0
  ·have I:=λw=>ZG (s.e:Int) s.a (by omega) w;have aj:((Zs v.toNat:Int)==0)=false:=by rw[beq_eq_false_iff_ne];omega
   by_cases h2:s.left=0
   ·rw[h2] at N;clear V h0 h1 h2;go_enter func58,ntmps58
    go_wp2_with (first
     |(go_at_call 50;refine(y _).mono ?_;rintro e w1 ⟨rfl,rfl⟩)
     |(go_at_call 21;refine MR (O _ (H.alloc _)) λw2 q=>?_;have H2:=QQ ((H.alloc _).below q);have B2:=QQ (Ze q);have Z:=QQ ((Bx.new w _ _).below q);have X:=ZY q;clear q)
     |(go_at_call 8;refine MR (I _) λw3 j=>?_;have U:=QQ (H2.below j);have B3:=QQ (B2.trans (j.mono B2.size));have R3:=QQ (Z.below j);have W:=j.size;clear j)
     |(go_at_call 59;refine MR (N _ U) λw4 u=>?_;have H4:=QQ (U.below u);have B4:=QQ (B3.trans (u.mono B3.size));have D:=QQ (R3.below u);have ai:=u.size;have c0:=D.cell 0;have c1:=D.cell 1;have c2:=D.cell 2;have c3:=D.cell 3;have c4:=D.cell 4;have c5:=D.cell 5;have f0:=D.free;clear u))
    have L:=D.zero6 (.string ⟨#[]⟩) (.int .u8 0) (.int .u8 0) (.int .u8 0) (.string ⟨#[]⟩) (.int .i64 0);refine bodyPost_ret (results_cell_tmp rfl _ _ w.heap.size _ _ _ _ _ rfl rfl L underlying114 rfl (by kernel_rfl)) rfl ?_;rw[<-hP];exact⟨H4.set6 (by omega) _ _ _ _ _ _,(But.of B4).set6 NL _ _ _ _ _ _,rfl⟩
   ·have h3:s.peek 1=[0]:=by
     rcases V with h|h|h|h
     ·exact absurd h h0
     ·exact absurd h1 h
     ·exact absurd h h2
     ·exact h
    have aB:((s.left:Int)==0)=false:=by rw[beq_eq_false_iff_ne];omega
    rw[h3] at Y;have hq:((B [0]).toList==[0])=true:=by rw[seqB];rfl
    have aA:(B [0]).toList=[0]:=Zjn _;clear V h0 h1 h2 h3;go_enter func58,ntmps58
    go_wp2_with (first
     |(go_at_call 50;refine(y _).mono ?_;rintro e w1 ⟨rfl,rfl⟩)
     |(go_at_call 21;refine MR (O _ (H.alloc _)) λw2 q=>?_;have H2:=QQ ((H.alloc _).below q);have B2:=QQ (Ze q);have Z:=QQ ((Bx.new w _ _).below q);have X:=ZY q;clear q)
     |(go_at_call 8;refine MR (I _) λw3 j=>?_;have U:=QQ (H2.below j);have B3:=QQ (B2.trans (j.mono B2.size));have R3:=QQ (Z.below j);have W:=j.size;clear j)
     |(go_at_call 59;refine MR (N _ U) λw4 u=>?_;have H4:=QQ (U.below u);have B4:=QQ (B3.trans (u.mono B3.size));have D:=QQ (R3.below u);have ai:=u.size;clear u)
     |(go_at_call 102;refine MR (Y _ H4) λw5 C=>?_;have H5:=QQ (H4.below C);have B5:=QQ (B4.trans (C.mono B4.size));have J:=QQ (D.below C);have az:=C.size;have c0:=J.cell 0;have c1:=J.cell 1;have c2:=J.cell 2;have c3:=J.cell 3;have c4:=J.cell 4;have c5:=J.cell 5;have f0:=J.free;clear C))
    have L:=J.zero6 (.string ⟨#[]⟩) (.int .u8 0) (.int .u8 0) (.int .u8 0) (.string ⟨#[]⟩) (.int .i64 0);refine bodyPost_ret (results_cell_tmp rfl _ _ w.heap.size _ _ _ _ _ rfl rfl L underlying114 rfl (by kernel_rfl)) rfl ?_;rw[<-hP];exact⟨H5.set6 (by omega) _ _ _ _ _ _,(But.of B5).set6 NL _ _ _ _ _ _,rfl⟩
  ·have I:=λw=>ZV (s.e:Int) s.a (by omega) w;have aj:((Zs v.toNat:Int)==0)=false:=by rw[beq_eq_false_iff_ne];omega
   clear V h0 h1;go_enter func58,ntmps58
   go_wp2_with (first
    |(go_at_call 50;refine(y _).mono ?_;rintro e w1 ⟨rfl,rfl⟩)
    |(go_at_call 21;refine MR (O _ (H.alloc _)) λw2 q=>?_;have H2:=QQ ((H.alloc _).below q);have B2:=QQ (Ze q);have Z:=QQ ((Bx.new w _ _).below q);have X:=ZY q;clear q)
    |(go_at_call 8;refine MR (I _) λw3 j=>?_;have U:=QQ (H2.below j);have B3:=QQ (B2.trans (j.mono B2.size));have R3:=QQ (Z.below j);have W:=j.size;have c0:=R3.cell 0;have c1:=R3.cell 1;have c2:=R3.cell 2;have c3:=R3.cell 3;have c4:=R3.cell 4;have c5:=R3.cell 5;have f0:=R3.free;clear j))
   have L:=R3.zero6 (.string ⟨#[]⟩) (.int .u8 0) (.int .u8 0) (.int .u8 0) (.string ⟨#[]⟩) (.int .i64 0);refine bodyPost_ret (results_cell_tmp rfl _ _ w.heap.size _ _ _ _ _ rfl rfl L underlying114 rfl (by kernel_rfl)) rfl ?_;rw[<-hP];exact⟨U.set6 (by omega) _ _ _ _ _ _,(But.of B3).set6 NL _ _ _ _ _ _,rfl⟩
def ZxL{w:World}{R:Nat}{T:TypeId}(h:Bx w R zero6 T):w.cell? ⟨R,0,none⟩=some (.string ⟨#[]⟩)/\w.cell? ⟨R,1,none⟩=some (.int .u8 0)/\w.cell? ⟨R,2,none⟩=some (.int .u8 0)/\w.cell? ⟨R,3,none⟩=some (.int .u8 0)/\w.cell? ⟨R,4,none⟩=some (.string ⟨#[]⟩)/\w.cell? ⟨R,5,none⟩=some (.int .i64 0):=
 ⟨h.cell 0,h.cell 1,h.cell 2,h.cell 3,h.cell 4,h.cell 5⟩
def Zqf(K:Nat)(s:InS)(v:Int)(sp:Bool)(w:World)(h:InAt w K s)(h1:Zs v.toNat≠0)(h2:s.e=0)(h3:s.left≠0)(h4:s.peek 1≠[0]):
 Calls prog 58 #[.int .i64 v,.pointer (some ⟨K,0,none⟩),.bool sp] w (ZfM K w (Zbg v.toNat s sp)):=by
 obtain⟨i,hi⟩:∃i,i=s.take (Zs v.toNat):=⟨_,rfl⟩
 obtain⟨s1,aT⟩:∃s1,s1=if Zax i.1<i.1.length then i.2.fail 1 (s.at_+Zax i.1) else i.2:=⟨_,rfl⟩
 obtain⟨m,hm⟩:∃m,m=Zbh v.toNat s1:=⟨_,rfl⟩
 obtain⟨g,hg⟩:∃g:Nat×InS,g=if 2<v.toNat then m.2.big 2 else(0,m.2):=⟨_,rfl⟩
 obtain⟨fm,aH⟩:∃fm:UInt8,fm=UInt8.ofNat g.1|||(if v.toNat=4/\sp=true then 2 else 0):=⟨_,rfl⟩
 obtain⟨d,hd⟩:∃d,d=g.2.take m.1:=⟨_,rfl⟩
 have hR:Zbg v.toNat s sp=if d.2.e≠0 then(none,d.2) else
  match Zbn v.toNat ⟨i.1,UInt8.ofNat (g.1 / 256),fm,0,[],s.at_⟩ d.1 g.2.at_ with
  | .error x=>(none,d.2.fail x.1 x.2)
  | .ok f=>(some f,d.2):=by
  subst hd aH hg hm aT hi;unfold Zbg;rw[if_neg (by rintro(h|h|h|h)<;>contradiction)];rfl
 generalize hP:ZfM K w (Zbg v.toNat s sp)=P at*;have cw:Zs v.toNat<=4:=by
  unfold Zs;split
  ·omega
  ·split<;>omega
 have cz:i.1.length<=4:=by rw[hi];have:=Zd8 s (Zs v.toNat);omega
 have bH:s.n<=1000000000:=by have:=h.fits;have:=h.len;omega
 have bT:s.at_=s.base+s.n:=Zd1 s s.n h.base bH;have cA:=h.base;have cB:s.at_<=2000000000:=by omega
 obtain⟨af,ao⟩:∃x,x=UInt8.ofNat (g.1 / 256):=⟨_,rfl⟩
 obtain⟨g8,aV⟩:∃x,x=UInt8.ofNat g.1:=⟨_,rfl⟩
 rw[<-ao] at hR;rw[<-aV] at aH;have aQ:=QQ ao;have bt:=QQ aV;clear ao aV;have bs:=QQ aT;have Hg:=QQ hg;have Hm:=QQ hm;have Hd:=QQ hd;have bu:=QQ aH;have HR:=QQ hR;have bV:=λw=>ZfG v w;have bN:=λw h=>Zc0 K s w h;have bL:=λw h=>Zig K s w h;have bJ:=λw h=>Zld K s 1 w h (by omega);have bY:=λw h=>Zcs K s w h;have bQ:=λw=>ZG (s.e:Int) s.a (by omega) w;have cy:((Zs v.toNat:Int)==0)=false:=by rw[beq_eq_false_iff_ne];omega
 have cx:((s.left:Int)==0)=false:=by rw[beq_eq_false_iff_ne];omega
 have hq:((B (s.peek 1)).toList==[0])=false:=by rw[seqB];simpa using h4
 have a1:=λw h=>Zdo K s (Zs v.toNat) (by omega) (by omega) w h;rw[Int.toNat_natCast,<-hi] at a1;unfold Zh at a1;have bF:=λw=>ZlJ i.1 (by omega) w;have b9:=Zj i.1;have bf:=h.lt;have H:=QQ h;have Ha:=QQ (show s.at_=s.at_ from rfl);clear h h1 h2 h3 h4 hi aT hm hg aH hd hR bT;generalize s.at_=L at*;go_enter func58,ntmps58
 go_upto_if 57 with(first
  |(go_at_call 50;refine(bV _).mono ?_;rintro e w1 ⟨rfl,rfl⟩)
  |(go_at_call 21;refine MR (bN _ (H.alloc _)) λw2 ay=>?_;have H2:=QQ ((H.alloc _).below ay);have B2:=QQ (Ze ay);have R2:=QQ ((Bx.new w _ _).below ay);have cr:=ZY ay;clear ay)
  |(go_at_call 8;refine MR (bQ _) λw3 ax=>?_;have H3:=QQ (H2.below ax);have B3:=QQ (B2.trans (ax.mono B2.size));have R3:=QQ (R2.below ax);have cq:=ax.size;clear ax)
  |(go_at_call 59;refine MR (bL _ H3) λw4 aw=>?_;have H4:=QQ (H3.below aw);have B4:=QQ (B3.trans (aw.mono B3.size));have R4:=QQ (R3.below aw);have cp:=aw.size;clear aw)
  |(go_at_call 102;refine MR (bJ _ H4) λX au=>?_;have H5:=QQ (H4.below au);have B5:=QQ (B4.trans (au.mono B4.size));have R5:=QQ (R4.below au);have co:=au.size;clear au)
  |(go_at_call 57;refine(bY _ H5).mono ?_;rintro e w6 ⟨rfl,rfl⟩;have ST:Hid (PSt w (X.alloc (.cells (six ⟨[],0,0,0,[],L⟩) 114)) K w.heap.size X.heap.size ⟨[],0,0,0,[],L⟩ s):=QQ ⟨Bx.new X _ _,H5.alloc _,R5.alloc _,(But.of B5).alloc (by omega) _,bf,rfl,by omega⟩;have bG:w.heap.size<X.heap.size:=(by omega))
  |(go_at_call 19;refine(a1 _ ST.inn).mono ?_;rintro e w7 ⟨rfl,h7,be⟩;have a4:=QQ (ST.butK h7 be);clear h7 be;obtain⟨⟨d0,d1,d2,d3,d4,d5⟩,⟨r0,r1,r2,r3,r4,r5⟩,f0,f1,l1,l2⟩:=a4.cells)
  |(go_at_call 103;refine(bF _).mono ?_;rintro e w8 ⟨rfl,rfl⟩))
 have a3:=QQ (a4.set (a4.frame.setId i.1));go_cut [] (λwx=>PSt w wx K w.heap.size X.heap.size ⟨i.1,0,0,0,[],L⟩ s1)
 case first=>
  by_cases hw:Zax i.1<i.1.length
  ·have aW:=λw h=>Za2 K i.2 1 ((L:Int)+Zax i.1) (by decide) (by omega) w h;have hs:=bs.out;rw[if_pos hw] at hs;rw[show(1:Int).toNat=1 from rfl,show((L:Int)+Zax i.1).toNat=L+Zax i.1 by omega,<-hs] at aW;unfold Zh at aW;clear hs;go_wp2_with (go_at_call 51;refine(aW _ a3.inn).mono ?_;rintro e w8 ⟨rfl,h8,bR⟩;have aK:=QQ (a3.butK h8 bR))
   go_meet
   exact aK.out
  ·have hs:=bs.out;rw[if_neg hw] at hs;have Hs:=QQ hs;clear hs;go_wp2_with fail
   go_meet
   rw[Hs.out];exact a3.out
 case rest=>
  have aK:=QQ hcut;clear hcut d0 d1 d2 d3 d4 d5 r0 r1 r2 r3 r4 r5 f0 f1 l1 l2;have aS:=λw h=>ZrV K s1 v w h;rw[<-Hm.out] at aS;unfold Zh at aS
  go_upto_if 68 with(go_at_call 104;refine(aS _ aK.inn).mono ?_;rintro e w9 ⟨rfl,h9,bd⟩;have aJ:=QQ (aK.butK h9 bd);clear h9 bd;obtain⟨⟨d0,d1,d2,d3,d4,d5⟩,⟨r0,r1,r2,r3,r4,r5⟩,f0,f1,l1,l2⟩:=aJ.cells)
  try simp only at d0 d1 d2 d3 d4 d5
  go_cut [] (λwx=>PSt w wx K w.heap.size X.heap.size ⟨i.1,af,g8,0,[],L⟩ g.2)
  case first=>
   by_cases hv:v>2
   ·have aZ:=λw h=>Zdm K m.2 2 (by omega) w h;have W:=Hg.out;rw[if_pos (by omega)] at W;have aU:=Zc3 m.2 2 (by omega);rw[<-W] at aU aZ;have cb:g.1<65536:=aU;unfold Zh at aZ;clear W aU;have br:((g.1:Int) / 256)=af.toNat:=by rw[aQ.out,UInt8.toNat_ofNat'];omega
    have bq:((g.1:Int) % 256)=g8.toNat:=by rw[bt.out,UInt8.toNat_ofNat'];omega
    have b5:=QQ br;have b4:=QQ bq;clear br bq;go_wp2_with (go_at_call 49;refine(aZ _ aJ.inn).mono ?_;rintro e aR ⟨rfl,bo,aN⟩;have V:=QQ (aJ.butK bo aN);clear bo aN d0 d1 d2 d3 d4 d5 r0 r1 r2 r3 r4 r5 f0 f1;obtain⟨⟨d0,d1,d2,d3,d4,d5⟩,⟨r0,r1,r2,r3,r4,r5⟩,f0,f1,l3,l4⟩:=V.cells)
    go_meet
    have q1:=V.set (V.frame.setSt _ _ b5);exact q1.set (q1.frame.setFm _ _ b4)
   ·have W:=Hg.out;rw[if_neg (by omega)] at W;have b1:=QQ W;clear W;go_wp2_with fail
    go_meet
    rw[aQ.out,bt.out,b1.out];simpa using aJ.out
  case rest=>
   have V:=QQ hcut;clear hcut d0 d1 d2 d3 d4 d5 r0 r1 r2 r3 r4 r5 f0 f1 l1 l2;obtain⟨⟨d0,d1,d2,d3,d4,d5⟩,⟨r0,r1,r2,r3,r4,r5⟩,f0,f1,l1,l2⟩:=V.cells
   try simp only at d0 d1 d2 d3 d4 d5
   go_upto_region 14 with fail
   go_cut [84] (λbE wx=>bE=.bool (decide (v=4)&&sp)/\PSt w wx K w.heap.size X.heap.size ⟨i.1,af,g8,0,[],L⟩ g.2)
   case first=>
    by_cases hv:v=4
    ·subst hv;go_wp2_with fail
     go_meet
     exact⟨rfl,V⟩
    ·have ct:(v==4)=false:=by simpa using hv
     have bO:decide (v=4)=false:=by simpa using hv
     clear hv;go_wp2_with fail
     go_meet
     exact⟨by rw[bO];rfl,V⟩
   obtain⟨rfl,hcut⟩:=hcut;have ad:=QQ hcut;clear hcut V d0 d1 d2 d3 d4 d5 r0 r1 r2 r3 r4 r5 f0 f1 l1 l2;obtain⟨⟨d0,d1,d2,d3,d4,d5⟩,⟨r0,r1,r2,r3,r4,r5⟩,f0,f1,l1,l2⟩:=ad.cells
   try simp only at d0 d1 d2 d3 d4 d5
   go_upto_if 84 with fail
   go_cut [] (λwx=>PSt w wx K w.heap.size X.heap.size ⟨i.1,af,fm,0,[],L⟩ g.2)
   case first=>
    have cu:=or_u8 g8 2 2 rfl;cases hb:(decide (v=4)&&sp) with
    |true=>
     have hf:=bu.out;rw[Bool.and_eq_true,decide_eq_true_eq] at hb;rw[if_pos ⟨by omega,hb.2⟩] at hf;have Hf:=QQ hf;clear hf hb;go_wp2_with fail
     go_meet
     exact ad.set (ad.frame.setFm _ _ (by rw[Hf.out];simp))
    |false=>
     have hf:=bu.out;rw[if_neg (by
      rintro⟨h1,h2⟩;rw[h2,Bool.and_true,decide_eq_false_iff_not] at hb;omega)] at hf
     have Hf:Hid (fm=g8):=QQ (by rw[hf];simp);clear hf;go_wp2_with fail
     go_meet
     rw[Hf.out];exact ad.out
   case rest=>
    have u:=QQ hcut;clear hcut d0 d1 d2 d3 d4 d5 r0 r1 r2 r3 r4 r5 f0 f1 l1 l2;have cv:m.1<=9223372036854775807:=by
     rw[Hm.out];unfold Zbh;have h3:=Zc3 s1 3 (by omega);have h4:=Zc3 s1 4 (by omega);have h5:=ZhM s1;have e3:(256:Nat)^3=16777216:=by decide
     have e4:(256:Nat)^4=4294967296:=by decide
     split
     ·omega
     ·split<;>omega
    have ab:=λw h=>Zcs K g.2 w h;have N:=λw h=>Zdo K g.2 m.1 (by omega) (by omega) w h;rw[Int.toNat_natCast,<-Hd.out] at N;unfold Zh at N;have aq:=λw h=>Zc0 K d.2 w h;obtain⟨aB,Z⟩:∃x,x=g.2.at_:=⟨_,rfl⟩
    have bI:aB+d.1.length<=1000000000:=by
     have h1:=u.inn.room;have h2:=u.inn.fits;have h3:=u.inn.base;have h4:=u.inn.len;rw[Z,InS.at_,Zd1 g.2 g.2.n h3 (by omega),Hd.out];unfold InS.take;split
     ·simp;omega
     ·split
      ·simp;omega
      ·simp;omega
    rw[<-Z] at ab;have J:=HR.out;rw[<-Z] at J;have bv:=QQ J;clear J Z;by_cases hE:d.2.e=0
    ·have Y:=λw=>ZG (d.2.e:Int) d.2.a (by omega) w;have J:=bv.out;rw[if_neg (by simpa using hE)] at J;have aL:=QQ J;have cC:=QQ hE;clear J hE;obtain⟨r,hr⟩:∃r,r=Zbn v.toNat ⟨i.1,af,fm,0,[],L⟩ d.1 aB:=⟨_,rfl⟩
     have ah:∀w,Zq w X.heap.size ⟨i.1,af,fm,0,[],L⟩->Calls prog 105 #[.pointer (some ⟨X.heap.size,0,none⟩),.int .i64 v,.string (B d.1),.int .i64 aB] w (Zef X.heap.size w r):=by
      intro w h;rw[hr];by_cases hl:ZQ v.toNat fm=true
      ·have:=Zqv X.heap.size _ v d.1 (aB:Int) w h hl
       rwa [Int.toNat_natCast] at this
      ·have:=Zqw X.heap.size _ v d.1 (aB:Int) (by omega) (by omega) w h (by simpa using hl)
       rwa [Int.toNat_natCast] at this
     have a6:=aL.out;rw[<-hr] at a6;have bw:=QQ a6;clear a6 aL hr;cases r with
     |ok f'=>
      unfold Zef at ah;simp only at ah;have ap:Zbg v.toNat s sp=(some f',d.2):=bw.out;have a5:=QQ ap;have bS:=λw=>ZG 0 0 rfl w;clear ap;go_wp2_with (first
       |(go_at_call 57;refine(ab _ u.inn).mono ?_;rintro e aR ⟨rfl,rfl⟩)
       |(go_at_call 19;refine(N _ u.inn).mono ?_;rintro e a9 ⟨rfl,O,I⟩;have U:=QQ (u.butK O I);clear O I)
       |(go_at_call 21;refine MR (aq _ U.inn) λa8 D=>?_;have aC:=QQ (U.below D);clear D)
       |(go_at_call 8;refine MR (Y _) λa7 C=>?_;have j:=QQ (aC.below C);clear C)
       |(go_at_call 105;refine(ah _ j.frame).mono ?_;rintro e ae ⟨q,rfl,bn⟩;have b0:Hid (PSt w ae K w.heap.size X.heap.size f' d.2):=QQ ⟨bn,j.inn.but q (by omega),j.res.but q (by omega),j.but.trans (.of ((q.mono j.but.size).below (by omega))),bf,rfl,bG⟩;clear bn q)
       |(go_at_call 8;refine MR (bS _) λbD y=>?_;have aI:=QQ ((b0.alloc _).below y);clear y;obtain⟨⟨d0,d1,d2,d3,d4,d5⟩,⟨r0,r1,r2,r3,r4,r5⟩,f0,f1,l1,l2⟩:=aI.cells))
      have hr:=aI.res.zero6 (.string (B f'.id)) (.int .u8 f'.st.toNat) (.int .u8 f'.fm.toNat) (.int .u8 f'.grp.toNat) (.string (B f'.body)) (.int .i64 f'.at_);refine bodyPost_ret (results_cell_tmp rfl _ _ w.heap.size _ _ _ _ _ rfl rfl hr underlying114 rfl (by kernel_rfl)) rfl ?_;rw[<-hP,a5.out];exact⟨aI.inn.set6 (by omega) _ _ _ _ _ _,aI.but.set6 NL _ _ _ _ _ _,rfl⟩
     |error x=>
      unfold Zef at ah;simp only at ah;have ap:Zbg v.toNat s sp=(none,d.2.fail x.1 x.2):=bw.out;have a5:=QQ ap;have aX:=λ(h0:x.1≠0) w h=>Za2 K d.2 x.1 x.2 (by omega) (by omega) w h;simp only[Int.toNat_natCast] at aX;unfold Zh at aX;clear ap;go_wp2_with (first
       |(go_at_call 57;refine(ab _ u.inn).mono ?_;rintro e aR ⟨rfl,rfl⟩)
       |(go_at_call 19;refine(N _ u.inn).mono ?_;rintro e a9 ⟨rfl,O,I⟩;have U:=QQ (u.butK O I);clear O I)
       |(go_at_call 21;refine MR (aq _ U.inn) λa8 D=>?_;have aC:=QQ (U.below D);clear D)
       |(go_at_call 8;refine MR (Y _) λa7 C=>?_;have j:=QQ (aC.below C);clear C)
       |(go_at_call 105;refine(ah _ j.frame).mono ?_;rintro e ae ⟨q,rfl,ba⟩;have bX:Hid (InAt ae K d.2):=QQ (j.inn.but q (by omega));have bW:Hid (Bx ae w.heap.size zero6 114):=QQ (j.res.but q (by omega));have a2:Hid (But K w.heap.size w ae):=QQ (j.but.trans (.of ((q.mono j.but.size).below (by omega))));have bP:=λw=>ZV (x.1:Int) x.2 (by omega) w;have b7:=q.size;have bc:=aX ba;have b2:=QQ bc;clear q bc ba)
       |(go_at_call 8;refine MR (bP _) λbD y=>?_;have BX:=QQ ((Bx.new ae _ _).below y);have bi:=QQ ((bX.alloc _).below y);have bg:=QQ ((bW.alloc _).below y);have aO:=QQ ((a2.alloc a2.size _).trans (.of (y.mono (by have:=a2.size;simp;omega))));clear y;have x0:=BX.cell 0;have x1:=BX.cell 1)
       |(go_at_call 51;refine(b2 _ bi).mono ?_;rintro e cn ⟨rfl,bm,az⟩;have aa:=QQ (bg.but az (by omega));have bj:=QQ (aO.trans (az.mono aO.size));have bh:=QQ bm;obtain⟨r0,r1,r2,r3,r4,r5⟩:=ZxL aa.out;have f0:=aa.free;have l0:=aa.lt;clear az bm))
      have hr:=aa.zero6 (.string ⟨#[]⟩) (.int .u8 0) (.int .u8 0) (.int .u8 0) (.string ⟨#[]⟩) (.int .i64 0);refine bodyPost_ret (results_cell_tmp rfl _ _ w.heap.size _ _ _ _ _ rfl rfl hr underlying114 rfl (by kernel_rfl)) rfl ?_;rw[<-hP,a5.out];exact⟨bh.set6 (by omega) _ _ _ _ _ _,bj.set6 NL _ _ _ _ _ _,rfl⟩
    ·have Y:=λw=>ZV (d.2.e:Int) d.2.a (by omega) w;have J:=bv.out;rw[if_pos hE] at J;have aL:=QQ J;clear J hE;go_wp2_with (first
      |(go_at_call 57;refine(ab _ u.inn).mono ?_;rintro e aR ⟨rfl,rfl⟩)
      |(go_at_call 19;refine(N _ u.inn).mono ?_;rintro e a9 ⟨rfl,O,I⟩;have U:=QQ (u.butK O I);clear O I)
      |(go_at_call 21;refine MR (aq _ U.inn) λa8 D=>?_;have aC:=QQ (U.below D);clear D)
      |(go_at_call 8;refine MR (Y _) λa7 C=>?_;have j:=QQ (aC.below C);clear C;obtain⟨⟨d0,d1,d2,d3,d4,d5⟩,⟨r0,r1,r2,r3,r4,r5⟩,f0,f1,l1,l2⟩:=j.cells))
     have hr:=j.res.zero6 (.string ⟨#[]⟩) (.int .u8 0) (.int .u8 0) (.int .u8 0) (.string ⟨#[]⟩) (.int .i64 0);refine bodyPost_ret (results_cell_tmp rfl _ _ w.heap.size _ _ _ _ _ rfl rfl hr underlying114 rfl (by kernel_rfl)) rfl ?_;rw[<-hP,aL.out];exact⟨j.inn.set6 (by omega) _ _ _ _ _ _,j.but.set6 NL _ _ _ _ _ _,rfl⟩
def Zqe(K:Nat)(s:InS)(v:Int)(q:Bool)(w:World)(h:InAt w K s):
 Calls prog 58 #[.int .i64 v,.pointer (some ⟨K,0,none⟩),.bool q] w (ZfM K w (Zbg v.toNat s q)):=by
 by_cases j:Zs v.toNat=0\/s.e≠0\/s.left=0\/s.peek 1=[0]
 ·exact Zqh K s v q w h j
 ·exact Zqf K s v q w h (λe=>j (.inl e)) (Classical.byContradiction λe=>j (.inr (.inl e))) (λe=>j (.inr (.inr (.inl e)))) (λe=>j (.inr (.inr (.inr e))))
def Zg2(m:UInt8)(z:Int)(c:UInt8)(j:z=c.toNat):bits .andNot .u8 (m.toNat:Int) z=((m&&& ~~~c).toNat:Int):=by
 subst j;rw[u8_andNot_nat m.toNat c.toNat m.toNat_lt c.toNat_lt,UInt8.toNat_and,UInt8.toNat_not];rfl
def ZkD(v:Int)(w:World):Calls prog 52 #[.int .i64 v] w λe w'=>e=.returned (.int .u8 (Zca v.toNat).toNat)/\w=w':=by
 by_cases y:v=2
 ·subst y;go_enter func52,ntmps52
  go_wp2_with fail
  go_ret
  exact⟨rfl,rfl⟩
 ·by_cases u:v=3
  ·subst u;go_enter func52,ntmps52
   go_wp2_with fail
   go_ret
   exact⟨rfl,rfl⟩
  ·by_cases q:v=4
   ·subst q;go_enter func52,ntmps52
    go_wp2_with fail
    go_ret
    exact⟨rfl,rfl⟩
   ·have J:(v==2)=false:=by simpa using y
    have I:(v==3)=false:=by simpa using u
    have D:(v==4)=false:=by simpa using q
    have j:Zca v.toNat=0:=by
     unfold Zca;rw[if_neg (by omega),if_neg (by omega),if_neg (by omega)]
    have C:=QQ j;clear j;go_enter func52,ntmps52
    go_wp2_with fail
    go_ret
    exact⟨ZaH (by rw[C.out];rfl),rfl⟩
def Zit(v:Int)(rev fl:UInt8)(w:World):
 Calls prog 56 #[.agg #[.int .i64 v,.int .u8 rev.toNat,.int .u8 fl.toNat]] w λe w'=>e=.returned (.bool (ZJ fl))/\Below w.heap.size w w':=by
 have hb:=ZcK fl 128 128 rfl;have j:=QQ (Zdx fl 128 128 rfl);go_enter func56,ntmps56
 go_wp2_with fail
 go_ret
 exact⟨ZcQ (by rw[j.out];rfl),(Below.refl _ w).alloc NL _⟩
def Zlu(v:Int)(rev fl:UInt8)(w:World):
 Calls prog 27 #[.agg #[.int .i64 v,.int .u8 rev.toNat,.int .u8 fl.toNat]] w λe w'=>e=.returned (.bool (ZbZ v.toNat fl))/\Below w.heap.size w w':=by
 by_cases u:v=4
 ·subst u;have hb:=ZcK fl 16 16 rfl;have y:=QQ (Zdx fl 16 16 rfl);go_enter func27,ntmps27
  go_wp2_with fail
  go_ret
  exact⟨ZcQ (by rw[y.out];simp[ZbZ]),(Below.refl _ w).alloc NL _⟩
 ·have C:(v==4)=false:=by simpa using u
  have j:(v.toNat==4)=false:=by rw[beq_eq_false_iff_ne];omega
  have q:ZbZ v.toNat fl=false:=by unfold ZbZ;rw[j];rfl
  rw[q];clear q j;go_enter func27,ntmps27
  go_wp2_with fail
  go_ret
  exact⟨rfl,(Below.refl _ w).alloc NL _⟩
def Zly(v:Int)(rev fl:UInt8)(w:World):
 Calls prog 22 #[.agg #[.int .i64 v,.int .u8 rev.toNat,.int .u8 fl.toNat]] w λe w'=>e=.returned (.bool (ZcV v.toNat fl))/\Below w.heap.size w w':=by
 by_cases q:v=4
 ·subst q;go_enter func22,ntmps22
  go_wp2_with fail
  go_ret
  exact⟨rfl,(Below.refl _ w).alloc NL _⟩
 ·have I:(v==4)=false:=by simpa using q
  have D:(v !=4)=true:=by simpa using q
  have u:(v.toNat !=4)=true:=by rw[bne_iff_ne];omega
  have y:ZcV v.toNat fl=ZJ fl:=by unfold ZcV;rw[u];rfl
  have hs:=λw=>Zit v rev fl w;rw[y];clear y u;go_enter func22,ntmps22
  go_wp2_with (go_at_call 56;refine MR (hs _) λC j=>?_)
  go_ret
  exact⟨rfl,Ze j⟩
def Zse(K:Nat)(s:InS)(z:Int)(J:z<0)(w:World)(h:InAt w K s):
 Calls prog 19 #[.pointer (some ⟨K,0,none⟩),.int .i64 z] w (Zh K w (.string (B [])) (if s.e≠0 then s else s.short)):=by
 generalize D:Zh K w (.string (B [])) (if s.e≠0 then s else s.short)=P at*;have H:=QQ h;by_cases h0:s.e=0
 ·have u:=λw h=>ZdL K s w h h0;have hs:(if s.e≠0 then s else s.short)=s.short:=by rw[if_neg (by omega)]
  have C:=QQ hs;have q:=λw h=>ZfO K s w h;unfold Zh at q;obtain⟨Z,Y,c2,U,O⟩:=h.get;have L:=h.lt;have hd:decide (z<0)=true:=by simpa using J
  clear hs h h0 c2 U O;go_enter func19,ntmps19
  go_wp2_with (go_at_call 53;refine MR (u _ H) λI j=>?_;obtain⟨X,W⟩:=Zcu j)
  go_quiet (fail)
  go_wp2_with (go_at_call 54;refine(q _ ((H.below j).drewN _)).mono ?_;rintro e V ⟨rfl,N,y⟩)
  show P (.returned (.string ⟨#[]⟩)) _
  rw[<-D,C.out];exact⟨rfl,N,(But.of (below_drewN j _)).trans (y.mono j.size)⟩
 ·have u:=λw h=>ZdK K s w h h0;have hs:(if s.e≠0 then s else s.short)=s:=by rw[if_pos h0]
  have C:=QQ hs;clear hs h h0;go_enter func19,ntmps19
  go_wp2_with (go_at_call 53;refine MR (u _ H) λI j=>?_)
  show P (.returned (.string ⟨#[]⟩)) _
  rw[<-D,C.out];exact⟨rfl,H.below j,.of j⟩
def ZgX(K:Nat)(w:World)(s:InS)(e:Ending)(w':World):Prop:=e=.returned (.tuple #[])/\InAt w' K s/\But K w.heap.size w w'
def ZrX(K:Nat)(s:InS)(v:Int)(rev fl:UInt8)(w:World)(h:InAt w K s):
 Calls prog 25 #[.agg #[.int .i64 v,.int .u8 rev.toNat,.int .u8 fl.toNat],.pointer (some ⟨K,0,none⟩)] w (ZgX K w (Zbu v.toNat fl s)):=by
 obtain⟨R,hR⟩:∃R,R=Zbu v.toNat fl s:=⟨_,rfl⟩
 rw[<-hR];generalize hP:ZgX K w R=P at*;have hb:=ZcK fl 64 64 rfl;have H:=QQ h;have ap:=h.lt;by_cases h0:fl&&&64=0
 ·have hv:((((fl.toNat&&&64:Nat):Int))==0)=true:=by
   have:=congrArg UInt8.toNat h0;rw[UInt8.toNat_and] at this;rw[beq_iff_eq];exact_mod_cast this
  have hs:R=s:=by rw[hR];unfold Zbu;rw[if_pos h0]
  have Hs:=QQ hs;clear hs hR h h0;go_enter func25,ntmps25
  go_wp2_with fail
  go_end0
  rw[<-hP,Hs.out];exact⟨rfl,H.alloc _,(But.refl _ _ _).alloc NL _⟩
 ·have hv:((((fl.toNat&&&64:Nat):Int))==0)=false:=by
   rw[beq_eq_false_iff_ne];intro e;apply h0
   apply UInt8.toNat_inj.1
   rw[UInt8.toNat_and];exact_mod_cast e
  unfold Zbu at hR;rw[if_neg h0] at hR;by_cases D:v=3
  ·subst D;have hs:R=((s.big 4).2.take (s.big 4).1).2:=hR;have V:=λw h=>Zdm K s 4 (by omega) w h;have U:=Zc3 s 4 (by omega);have C:(256:Nat)^4=4294967296:=by decide
   rw[C] at U;have j:=λw h=>Zdo K (s.big 4).2 (s.big 4).1 (by omega) (by omega) w h;rw[Int.toNat_natCast,<-hs] at j;unfold Zh at V j;clear hs hR h h0 C;generalize (s.big 4).1=N at*;generalize (s.big 4).2=Z at*;go_enter func25,ntmps25
   go_wp2_with (first
    |(go_at_call 49;refine(V _ (H.alloc _)).mono ?_;rintro e w1 ⟨rfl,h1,W⟩;have H1:=QQ h1;have B1:=QQ (ZiF W);clear h1 W)
    |(go_at_call 19;refine(j _ H1).mono ?_;rintro e w2 ⟨rfl,h2,y⟩))
   go_end0
   rw[<-hP];exact⟨rfl,h2,B1.trans (y.mono B1.size)⟩
  ·have e3:(v==3)=false:=by simpa using D
   rw[if_neg (by omega)] at hR;have hs:R=(if s.safe.1<4 then(if(if s.safe.1<6 then s.safe.2.fail 1 s.at_ else s.safe.2).e≠0 then(if s.safe.1<6 then s.safe.2.fail 1 s.at_ else s.safe.2) else(if s.safe.1<6 then s.safe.2.fail 1 s.at_ else s.safe.2).short) else((if s.safe.1<6 then s.safe.2.fail 1 s.at_ else s.safe.2).take (s.safe.1 - 4)).2):=hR;have ae:=λw h=>Zcs K s w h;have O:=λw h=>ZgU K s w h;have U:=ZhM s;unfold Zh at O;clear hR h h0;generalize s.safe.1=N at*;generalize s.safe.2=Z at*;generalize s.at_=X at*;obtain⟨L,I⟩:∃L,L=if N<6 then Z.fail 1 X else Z:=⟨_,rfl⟩
   rw[<-I] at hs;have Hs:=QQ hs;have Y:=QQ I;clear hs I;go_enter func25,ntmps25
   go_upto_if 23 with(first
    |(go_at_call 57;refine(ae _ (H.alloc _)).mono ?_;rintro e w1 ⟨rfl,rfl⟩)
    |(go_at_call 20;refine(O _ (H.alloc _)).mono ?_;rintro e w2 ⟨rfl,h2,y⟩;have H2:=QQ h2;have B2:=QQ (ZiF y);clear h2 y))
   go_cut [] (λwx=>InAt wx K L/\But K w.heap.size w wx)
   case first=>
    by_cases h6:N<6
    ·have hf:=λw h=>Za2 K Z 1 (X:Int) (by decide) (by omega) w h;have q:=Y.out;rw[if_pos h6] at q;rw[Int.toNat_natCast,show(1:Int).toNat=1 from rfl,<-q] at hf;unfold Zh at hf;clear q;go_wp2_with (go_at_call 51;refine(hf _ H2).mono ?_;rintro e w3 ⟨rfl,D,u⟩)
     go_meet
     exact⟨D,B2.trans (u.mono B2.size)⟩
    ·have q:=Y.out;rw[if_neg h6] at q;have Hq:=QQ q;clear q;go_wp2_with fail
     go_meet
     rw[Hq.out];exact⟨H2,B2⟩
   case rest=>
    have J:=QQ hcut;clear hcut;by_cases h4:N<4
    ·have j:=λw h=>Zse K L ((N:Int) - 4) (by omega) w h;have q:=Hs.out;rw[if_pos h4] at q;rw[<-q] at j;unfold Zh at j;clear q;go_wp2_with (go_at_call 19;refine(j _ J.1).mono ?_;rintro e w3 ⟨rfl,D,u⟩)
     go_end0
     rw[<-hP];exact⟨rfl,D,J.2.trans (u.mono J.2.size)⟩
    ·have j:=λw h=>Zdo K L ((N:Int) - 4) (by omega) (by omega) w h;have q:=Hs.out;rw[if_neg h4] at q;rw[show((N:Int) - 4).toNat=N - 4 by omega,<-q] at j;unfold Zh at j;clear q;go_wp2_with (go_at_call 19;refine(j _ J.1).mono ?_;rintro e w3 ⟨rfl,D,u⟩)
     go_end0
     rw[<-hP];exact⟨rfl,D,J.2.trans (u.mono J.2.size)⟩
def three(v:Int)(rev fl:UInt8):Array Value:=#[.int .i64 v,.int .u8 rev.toNat,.int .u8 fl.toNat]
def ZkZ(K:Nat)(w:World)(r:(Nat×UInt8×UInt8)×InS)(e:Ending)(w':World):Prop:=
 e=.returned (.agg (three r.1.1 r.1.2.1 r.1.2.2))/\InAt w' K r.2/\But K w.heap.size w w'
structure HSt (w0 wx:World)(K R T:Nat)(v:Int)(rev fl:UInt8)(s:InS):Prop where
 hd:Bx wx T (three v rev fl) 38
 inn:InAt wx K s
 res:Bx wx R (three 0 0 0) 38
 but:But K w0.heap.size w0 wx
 hK:K<w0.heap.size
 hR:R=w0.heap.size
 hT:R<T
section
variable {w0 w w':World} {T R K:Nat} {v:Int} {rev fl:UInt8} {s s':InS}
theorem HSt.below(h:HSt w0 w K R T v rev fl s)(hb:Below w.heap.size w w'):HSt w0 w' K R T v rev fl s:=
 ⟨h.hd.below hb,h.inn.below hb,h.res.below hb,h.but.trans (.of (hb.mono h.but.size)),h.hK,h.hR,h.hT⟩
theorem HSt.butK(h:HSt w0 w K R T v rev fl s)(j:InAt w' K s')(hb:But K w.heap.size w w'):HSt w0 w' K R T v rev fl s':=
 ⟨h.hd.but hb (by have:=h.hT;have:=h.hR;have:=h.hK;omega),j,h.res.but hb (by have:=h.hK;have:=h.hR;omega),h.but.trans (hb.mono h.but.size),h.hK,h.hR,h.hT⟩
theorem HSt.drewN(h:HSt w0 w K R T v rev fl s)(n:Nat):HSt w0 (w.drewN n) K R T v rev fl s:=
 h.below (below_drewN (Below.refl _ _) n)
theorem HSt.cells(h:HSt w0 w K R T v rev fl s):(w.cell? ⟨T,0,none⟩=some (.int .i64 v)/\w.cell? ⟨T,1,none⟩=some (.int .u8 rev.toNat)/\w.cell? ⟨T,2,none⟩=some (.int .u8 fl.toNat))/\
 (w.cell? ⟨R,0,none⟩=some (.int .i64 0)/\w.cell? ⟨R,1,none⟩=some (.int .u8 0)/\w.cell? ⟨R,2,none⟩=some (.int .u8 0))/\(∀j,w.frozen? ⟨R,j,none⟩=false)/\T<w.heap.size/\R<w.heap.size:=
 ⟨⟨h.hd.cell 0,h.hd.cell 1,h.hd.cell 2⟩,⟨h.res.cell 0,h.res.cell 1,h.res.cell 2⟩,h.res.free,h.hd.lt,h.res.lt⟩
end
def Bx.three{w:World}{g:Nat}{T:TypeId}{u q j:Value}(h:Bx w g #[u,q,j] T)(a b c:Value):Bx (((w.setCell ⟨g,0,none⟩ a).setCell ⟨g,1,none⟩ b).setCell ⟨g,2,none⟩ c) g #[a,b,c] T:=by
 have h0:Bx (w.setCell ⟨g,0,none⟩ a) g #[a,q,j] T:=h.put 0 a;have y:Bx _ g #[a,b,j] T:=h0.put 1 b;exact y.put 2 c
def Zqz(K:Nat)(s:InS)(w:World)(h:InAt w K s):
 Calls prog 18 #[.pointer (some ⟨K,0,none⟩)] w (ZkZ K w (ZW s)):=by
 obtain⟨q,j⟩:∃q,q=(s.want Zu).2:=⟨_,rfl⟩
 obtain⟨a,ha⟩:∃a,a=q.big 1:=⟨_,rfl⟩
 obtain⟨b,hb⟩:∃b,b=a.2.big 1:=⟨_,rfl⟩
 obtain⟨c,hc⟩:∃c,c=b.2.big 1:=⟨_,rfl⟩
 obtain⟨v,hv⟩:∃v:Nat,v=a.1:=⟨_,rfl⟩
 obtain⟨rev,X⟩:∃rev:UInt8,rev=UInt8.ofNat b.1:=⟨_,rfl⟩
 obtain⟨fl,aC⟩:∃fl:UInt8,fl=UInt8.ofNat c.1:=⟨_,rfl⟩
 obtain⟨s1,aB⟩:∃s1,s1=if Zs v=0 then c.2.fail 3 3 else c.2:=⟨_,rfl⟩
 obtain⟨s2,aA⟩:∃s2,s2=if rev=255 then s1.fail 1 4 else s1:=⟨_,rfl⟩
 obtain⟨s3,az⟩:∃s3,s3=if fl&&& ~~~(Zca v)≠0 then s2.fail 1 5 else s2:=⟨_,rfl⟩
 obtain⟨s4,ay⟩:∃s4,s4=if v=2/\fl&&&0x40≠0 then s3.fail 3 5 else s3:=⟨_,rfl⟩
 have hR:ZW s=if c.2.e≠0 then((0,0,0),c.2) else((v,rev,fl),s4):=by
  subst ay az aA aB aC X hv hc hb ha j;rfl
 generalize hP:ZkZ K w (ZW s)=P at*;have W:=Zc3 q 1 (by omega);have ac:=Zc3 a.2 1 (by omega);have ab:=Zc3 b.2 1 (by omega);rw[<-ha] at W;rw[<-hb] at ac;rw[<-hc] at ab;have e1:(256:Nat)^1=256:=by decide
 rw[e1] at W ac ab;have ax:=λw h=>Ziv K s Zu (by decide) w h;rw[<-j] at ax;have ae:=λw h=>Zdm K q 1 (by omega) w h;have u:=λw h=>Zdm K a.2 1 (by omega) w h;have ad:=λw h=>Zdm K b.2 1 (by omega) w h;rw[<-ha] at ae;rw[<-hb] at u;rw[<-hc] at ad;unfold Zh at ax ae u ad;rw[<-hv] at ae;have bj:v<256:=by omega
 have aO:b.1=rev.toNat:=by have:=Zjy b.1 ac;rw[<-X] at this;omega
 have aQ:c.1=fl.toNat:=by have:=Zjy c.1 ab;rw[<-aC] at this;omega
 rw[aO] at u;rw[aQ] at ad;have bk:=rev.toNat_lt;have a9:=fl.toNat_lt;have aW:=QQ aB;have aV:=QQ aA;have aU:=QQ az;have aT:=QQ ay;have HR:=QQ hR;have aR:=λw h=>Zc0 K c.2 w h;have H:=QQ h;have a8:=h.lt;clear h j ha hb hc hv X aC aB aA az ay hR e1 W aO aQ ac ab;go_enter func18,ntmps18
 go_upto_region 3 with(first
  |(go_at_call 28;refine(ax _ (H.alloc _)).mono ?_;rintro e w1 ⟨rfl,h1,aj⟩;have H1:=QQ h1;have B1:=QQ (ZiF aj);have R1:=QQ ((Bx.new w _ _).but aj (by omega));have a5:=aj.size;simp only[World.size_alloc] at a5;clear h1 aj)
  |(go_at_call 49;refine(ae _ H1).mono ?_;rintro e w2 ⟨rfl,h2,ai⟩;have H2:=QQ h2;have B2:=QQ (B1.trans (ai.mono B1.size));have R2:=QQ (R1.but ai (by omega));have bi:=ai.size;clear h2 ai)
  |(go_at_call 49;refine(u _ H2).mono ?_;rintro e w3 ⟨rfl,h3,ah⟩;have H3:=QQ h3;have B3:=QQ (B2.trans (ah.mono B2.size));have R3:=QQ (R2.but ah (by omega));have bh:=ah.size;clear h3 ah)
  |(go_at_call 49;refine(ad _ H3).mono ?_;rintro e w4 ⟨rfl,h4,af⟩;have H4:=QQ h4;have B4:=QQ (B3.trans (af.mono B3.size));have R4:=QQ (R3.but af (by omega));have bg:=af.size;clear h4 af))
 have ST:Hid (HSt w (w4.alloc (.cells (three v rev fl) 38)) K w.heap.size w4.heap.size v rev fl c.2):=QQ ⟨Bx.new w4 _ _,H4.alloc _,R4.alloc _,B4.alloc B4.size _,a8,rfl,by omega⟩;obtain⟨⟨J,d1,d2⟩,⟨N,L,r2⟩,V,U,O⟩:=ST.cells;have bm:=QQ J;by_cases hE:c.2.e=0
 ·have I:=HR.out;rw[if_neg (by simpa using hE)] at I;have aJ:=QQ I;have aD:=λw=>ZG (c.2.e:Int) c.2.a (by omega) w;clear I hE;have aP:=λw=>ZfG (v:Int) w;rw[Int.toNat_natCast] at aP;have W:=λw=>ZkD (v:Int) w;rw[Int.toNat_natCast] at W;obtain⟨x8,aw⟩:∃x8,x8=fl&&& ~~~(Zca v):=⟨_,rfl⟩
  have a7:=Zg2 fl (Zca v).toNat (Zca v) rfl;rw[<-aw] at a7;have h3:=aU.out;rw[<-aw] at h3;have aq:=QQ h3;clear h3 aw aU;generalize Zca v=bn at*
  go_upto_if 23 with(first
   |(go_at_call 21;refine MR (aR _ ST.inn) λw5 Z=>?_;have aH:=QQ (ST.below Z);clear Z)
   |(go_at_call 8;refine MR (aD _) λw6 Y=>?_;have y:=QQ (aH.below Y);clear Y J d1 d2 N L r2 V U O;obtain⟨⟨J,d1,d2⟩,⟨N,L,r2⟩,V,U,O⟩:=y.cells)
   |(go_at_call 50;refine(aP _).mono ?_;rintro e w7 ⟨rfl,rfl⟩))
  go_cut [] (λwx=>HSt w wx K w.heap.size w4.heap.size v rev fl s1)
  case first=>
   by_cases h0:Zs v=0
   ·have hv:((Zs v:Int)==0)=true:=by rw[h0];rfl
    have j:=aW.out;rw[if_pos h0] at j;have C:=λw h=>Za2 K c.2 3 3 (by decide) (by decide) w h;rw[show(3:Int).toNat=3 from rfl,<-j] at C;unfold Zh at C;clear j h0;go_wp2_with (go_at_call 51;refine(C _ y.inn).mono ?_;rintro e w8 ⟨rfl,h8,D⟩)
    go_meet
    exact y.butK h8 D
   ·have hv:((Zs v:Int)==0)=false:=by rw[beq_eq_false_iff_ne];omega
    have j:=aW.out;rw[if_neg h0] at j;have Hq:=QQ j;clear j h0;go_wp2_with fail
    go_meet
    rw[Hq.out];exact y.out
  have an:=QQ hcut;clear hcut J d1 d2 N L r2 V U O;obtain⟨⟨J,d1,d2⟩,⟨N,L,r2⟩,V,U,O⟩:=an.cells
  go_upto_if 28 with fail
  go_cut [] (λwx=>HSt w wx K w.heap.size w4.heap.size v rev fl s2)
  case first=>
   by_cases h0:rev=255
   ·have hv:((rev.toNat:Int)==255)=true:=by rw[h0];rfl
    have j:=aV.out;rw[if_pos h0] at j;have C:=λw h=>Za2 K s1 1 4 (by decide) (by decide) w h;rw[show(1:Int).toNat=1 from rfl,show(4:Int).toNat=4 from rfl,<-j] at C;unfold Zh at C;clear j h0;go_wp2_with (go_at_call 51;refine(C _ an.inn).mono ?_;rintro e w8 ⟨rfl,h8,D⟩)
    go_meet
    exact an.butK h8 D
   ·have hv:((rev.toNat:Int)==255)=false:=by rw[beq_eq_false_iff_ne];exact λe=>h0 (UInt8.toNat_inj.1 (by show rev.toNat=255;omega))
    have j:=aV.out;rw[if_neg h0] at j;have Hq:=QQ j;clear j h0;go_wp2_with fail
    go_meet
    rw[Hq.out];exact an.out
  have aS:=QQ hcut;clear hcut J d1 d2 N L r2 V U O;obtain⟨⟨J,d1,d2⟩,⟨N,L,r2⟩,V,U,O⟩:=aS.cells;go_wp2_with fail
  go_quiet ((go_at_call 52;exact Calls.quiet_of_same ((W _).mono λ_ _ ⟨a,b⟩=>⟨a,b.symm⟩)))
  have aG:=QQ (aS.drewN nq)
  go_upto_if 37 with fail
  go_cut [] (λwx=>HSt w wx K w.heap.size w4.heap.size v rev fl s3)
  case first=>
   by_cases h0:x8=0
   ·have hv:((x8.toNat:Int) !=0)=false:=by rw[h0];rfl
    have j:=aq.out;rw[if_neg (by simpa using h0)] at j;have Hq:=QQ j;clear j h0;go_wp2_with fail
    go_meet
    rw[Hq.out];exact aG.out
   ·have hv:((x8.toNat:Int) !=0)=true:=by rw[ZdV];simpa using h0
    have j:=aq.out;rw[if_pos h0] at j;have C:=λw h=>Za2 K s2 1 5 (by decide) (by decide) w h;rw[show(1:Int).toNat=1 from rfl,show(5:Int).toNat=5 from rfl,<-j] at C;unfold Zh at C;clear j h0;go_wp2_with (go_at_call 51;refine(C _ aG.inn).mono ?_;rintro e w8 ⟨rfl,h8,D⟩)
    go_meet
    exact aG.butK h8 D
  have aF:=QQ hcut;clear hcut J d1 d2 N L r2 V U O;obtain⟨⟨J,d1,d2⟩,⟨N,L,r2⟩,V,U,O⟩:=aF.cells;go_upto_region 11 with fail
  go_cut [48] (λa4 wx=>a4=.bool (decide (v=2)&&(fl&&&64 !=0))/\HSt w wx K w.heap.size w4.heap.size v rev fl s3)
  case first=>
   have hb:=ZcK fl 64 64 rfl;have HN:=QQ (Zdx fl 64 64 rfl);by_cases h2:v=2
   ·subst h2;go_wp2_with fail
    go_meet
    exact⟨by rw[<-HN.out];rfl,aF⟩
   ·have hv:((v:Int)==2)=false:=by rw[beq_eq_false_iff_ne];omega
    have Hd:Hid (decide (v=2)=false):=QQ (by simpa using h2);clear h2;go_wp2_with fail
    go_meet
    exact⟨by rw[Hd.out];rfl,aF⟩
  obtain⟨rfl,hcut⟩:=hcut;have am:=QQ hcut;clear hcut J d1 d2 N L r2 V U O;obtain⟨⟨J,d1,d2⟩,⟨N,L,r2⟩,V,U,O⟩:=am.cells
  go_upto_if 48 with fail
  go_cut [] (λwx=>HSt w wx K w.heap.size w4.heap.size v rev fl s4)
  case first=>
   cases u:(decide (v=2)&&(fl&&&64 !=0)) with
   |true=>
    have j:=aT.out;rw[Bool.and_eq_true,decide_eq_true_eq] at u;rw[if_pos ⟨u.1,by simpa using u.2⟩] at j;have C:=λw h=>Za2 K s3 3 5 (by decide) (by decide) w h;rw[show(3:Int).toNat=3 from rfl,show(5:Int).toNat=5 from rfl,<-j] at C;unfold Zh at C;clear j u;go_wp2_with (go_at_call 51;refine(C _ am.inn).mono ?_;rintro e w8 ⟨rfl,h8,D⟩)
    go_meet
    exact am.butK h8 D
   |false=>
    have j:=aT.out;rw[if_neg (by
     rintro⟨h1,h2⟩;rw[h1] at u;simp at u;exact h2 u)] at j
    have Hq:=QQ j;clear j u;go_wp2_with fail
    go_meet
    rw[Hq.out];exact am.out
  have ak:=QQ hcut;clear hcut J d1 d2 N L r2 V U O;obtain⟨⟨J,d1,d2⟩,⟨N,L,r2⟩,V,U,O⟩:=ak.cells;go_wp2_with fail
  have hr:=ak.res.three (.int .i64 v) (.int .u8 rev.toNat) (.int .u8 fl.toNat);refine bodyPost_ret (results_cell_row rfl _ _ w.heap.size _ _ _ _ rfl hr underlying38 rfl (by kernel_rfl)) rfl ?_;rw[<-hP,aJ.out];exact⟨rfl,((ak.inn.set (by omega) _ _).set (by omega) _ _).set (by omega) _ _,((ak.but.setCell (p:=⟨w.heap.size,0,none⟩) (.inl NL) _).setCell (p:=⟨w.heap.size,1,none⟩) (.inl NL) _).setCell (p:=⟨w.heap.size,2,none⟩) (.inl NL) _⟩
 ·have I:=HR.out;rw[if_pos hE] at I;have aJ:=QQ I;have aD:=λw=>ZV (c.2.e:Int) c.2.a (by omega) w;clear I hE;go_wp2_with (first
   |(go_at_call 21;refine MR (aR _ ST.inn) λw5 Z=>?_;have aH:=QQ (ST.below Z);clear Z)
   |(go_at_call 8;refine MR (aD _) λw6 Y=>?_;have y:=QQ (aH.below Y);clear Y J d1 d2 N L r2 V U O;obtain⟨⟨J,d1,d2⟩,⟨N,L,r2⟩,V,U,O⟩:=y.cells))
  have hr:=y.res.three (.int .i64 0) (.int .u8 0) (.int .u8 0);refine bodyPost_ret (results_cell_row rfl _ _ w.heap.size _ _ _ _ rfl hr underlying38 rfl (by kernel_rfl)) rfl ?_;rw[<-hP,aJ.out];exact⟨rfl,((y.inn.set (by omega) _ _).set (by omega) _ _).set (by omega) _ _,((y.but.setCell (p:=⟨w.heap.size,0,none⟩) (.inl NL) _).setCell (p:=⟨w.heap.size,1,none⟩) (.inl NL) _).setCell (p:=⟨w.heap.size,2,none⟩) (.inl NL) _⟩
