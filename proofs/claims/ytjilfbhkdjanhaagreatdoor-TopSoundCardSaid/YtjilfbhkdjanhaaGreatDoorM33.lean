/- Lemmas for a statement on the tops; conditions: as each says. -/
import Derived.Deep.MidRow
import Derived.Great.Walk
import Derived.Test.YtjilfbhkdjanhaaGreatDoorM32
set_option linter.all false
set_option maxRecDepth 100000
set_option maxHeartbeats 1000000
open Go.Proofs.Tryz
namespace Go.Proofs.YtjilfbhkdjanhaaGreatDoor
open Go Go.RowKit
def ZwK:List Value:=[.string ⟨#[73,68,51]⟩,.int .i64 1,.string ⟨#[79,103,103,83]⟩,.int .i64 2,.string ⟨#[102,76,97,67]⟩,.int .i64 3]
def Zls(w:World):Prop:=w.rangeAt 0 0 ZwK
def ZqP(c:Int)(w:World):Calls prog 14 #[.int .i64 c] w λe w'=>e=.returned (.bool (decide (0<=c/\c<=6)))/\w=w':=by
 by_cases h0:0<=c
 ·by_cases j:c<=6
  ·rw[decide_eq_true ⟨h0,j⟩];go_enter func14,ntmps14
   go_wp2_with fail
   go_ret
   exact⟨rfl,rfl⟩
  ·rw[decide_eq_false λh=>j h.2];go_enter func14,ntmps14
   go_wp2_with fail
   go_ret
   exact⟨rfl,rfl⟩
 ·rw[decide_eq_false λh=>h0 h.1];go_enter func14,ntmps14
  go_wp2_with fail
  go_ret
  exact⟨rfl,rfl⟩
def ZqN(c:Int)(w:World):Calls prog 13 #[.int .i64 c] w λe w'=>e=.returned (.bool (decide (1<=c/\c<=7)))/\w=w':=by
 by_cases h0:1<=c
 ·by_cases j:c<=7
  ·rw[decide_eq_true ⟨h0,j⟩];go_enter func13,ntmps13
   go_wp2_with fail
   go_ret
   exact⟨rfl,rfl⟩
  ·rw[decide_eq_false λh=>j h.2];go_enter func13,ntmps13
   go_wp2_with fail
   go_ret
   exact⟨rfl,rfl⟩
 ·rw[decide_eq_false λh=>h0 h.1];go_enter func13,ntmps13
  go_wp2_with fail
  go_ret
  exact⟨rfl,rfl⟩
def Zdf(q fb j:Int):Bool:=decide ((q=0\/1<=q/\q<=7)/\(0<=fb/\fb<=6)/\0<=j/\j<=268435456)
def ZgV(I fb y:Int)(det:Bool)(w:World):Calls prog 5 #[.agg #[.int .i64 I,.int .i64 fb,.bool det,.int .i64 y]] w λe w'=>e=.returned (.bool (Zdf I fb y))/\Below w.heap.size w w':=by
 have j:=λw=>ZqP fb w;have q:=λw=>ZqN I w;have hB:Below w.heap.size w (w.alloc (.cells #[.int .i64 I,.int .i64 fb,.bool det,.int .i64 y] 25)):=(Below.refl _ _).alloc (Nat.le_refl _) _;unfold Zdf;by_cases L:I=0
 ·subst L;by_cases C:0<=fb/\fb<=6
  ·rw[decide_eq_true C] at j;by_cases h0:0<=y
   ·by_cases J:y<=268435456
    ·rw[decide_eq_true ⟨.inl rfl,C,h0,J⟩];clear q C;go_enter func5,ntmps5
     go_wp2_with (go_at_call 14;refine(j _).mono ?_;rintro e D ⟨rfl,rfl⟩)
     go_ret
     exact⟨rfl,hB⟩
    ·rw[decide_eq_false λh=>J h.2.2.2];clear q C;go_enter func5,ntmps5
     go_wp2_with (go_at_call 14;refine(j _).mono ?_;rintro e D ⟨rfl,rfl⟩)
     go_ret
     refine⟨?_,hB⟩;show Ending.returned (.bool (decide (y<=268435456)))=_
     rw[decide_eq_false (by omega)]
   ·rw[decide_eq_false λh=>h0 h.2.2.1];clear q C;go_enter func5,ntmps5
    go_wp2_with (go_at_call 14;refine(j _).mono ?_;rintro e D ⟨rfl,rfl⟩)
    go_ret
    exact⟨rfl,hB⟩
  ·rw[decide_eq_false C] at j;rw[decide_eq_false λh=>C h.2.1];clear q C;go_enter func5,ntmps5
   go_wp2_with (go_at_call 14;refine(j _).mono ?_;rintro e D ⟨rfl,rfl⟩)
   go_ret
   exact⟨rfl,hB⟩
 ·by_cases u:1<=I/\I<=7
  ·rw[decide_eq_true u] at q;by_cases C:0<=fb/\fb<=6
   ·rw[decide_eq_true C] at j;by_cases h0:0<=y
    ·by_cases J:y<=268435456
     ·rw[decide_eq_true ⟨.inr u,C,h0,J⟩];clear u C;go_enter func5,ntmps5
      go_wp2_with (first|(go_at_call 14;refine(j _).mono ?_;rintro e D ⟨rfl,rfl⟩)|(go_at_call 13;refine(q _).mono ?_;rintro e D ⟨rfl,rfl⟩))
      go_ret
      exact⟨rfl,hB⟩
     ·rw[decide_eq_false λh=>J h.2.2.2];clear u C;go_enter func5,ntmps5
      go_wp2_with (first|(go_at_call 14;refine(j _).mono ?_;rintro e D ⟨rfl,rfl⟩)|(go_at_call 13;refine(q _).mono ?_;rintro e D ⟨rfl,rfl⟩))
      go_ret
      refine⟨?_,hB⟩;show Ending.returned (.bool (decide (y<=268435456)))=_
      rw[decide_eq_false (by omega)]
    ·rw[decide_eq_false λh=>h0 h.2.2.1];clear u C;go_enter func5,ntmps5
     go_wp2_with (first|(go_at_call 14;refine(j _).mono ?_;rintro e D ⟨rfl,rfl⟩)|(go_at_call 13;refine(q _).mono ?_;rintro e D ⟨rfl,rfl⟩))
     go_ret
     exact⟨rfl,hB⟩
   ·rw[decide_eq_false C] at j;rw[decide_eq_false λh=>C h.2.1];clear u C;go_enter func5,ntmps5
    go_wp2_with (first|(go_at_call 14;refine(j _).mono ?_;rintro e D ⟨rfl,rfl⟩)|(go_at_call 13;refine(q _).mono ?_;rintro e D ⟨rfl,rfl⟩))
    go_ret
    exact⟨rfl,hB⟩
  ·rw[decide_eq_false u] at q;rw[decide_eq_false λh=>h.1.elim L u];clear u;go_enter func5,ntmps5
   go_wp2_with (first|(go_at_call 14;refine(j _).mono ?_;rintro e D ⟨rfl,rfl⟩)|(go_at_call 13;refine(q _).mono ?_;rintro e D ⟨rfl,rfl⟩))
   go_ret
   exact⟨rfl,hB⟩
def Zsp(T:Array Value)(hs:T.size=25)(N:T[0]?=some (.int .i64 1))(s:ByteArray)(x y:Int)(w:World)
 (h:∀wx,Below w.heap.size w wx->Calls prog 45 #[.agg T] wx λe w'=>e=.returned (.tuple #[.string s,.agg #[.int .i64 x,.int .i64 y]])/\Below wx.heap.size wx w'):
 Calls prog 16 #[.agg T] w λe w'=>e=.returned (.tuple #[.string s,.agg #[.int .i64 x,.int .i64 y]])/\Below w.heap.size w w':=by
 have j:Below w.heap.size w ((w.alloc (.cells T 72)).alloc (.cells #[.int .i64 0,.int .i64 0] 34)):=((Below.refl _ _).alloc (Nat.le_refl _) _).alloc (by simp) _;have q:=QQ j;have J:=h _ j;have bx:Bx ((w.alloc (.cells T 72)).alloc (.cells #[.int .i64 0,.int .i64 0] 34)) w.heap.size T 72:=(Bx.new w _ _).alloc _;have c0:((w.alloc (.cells T 72)).alloc (.cells #[.int .i64 0,.int .i64 0] 34)).cell? ⟨w.heap.size,0,none⟩=some (.int .i64 1):=by rw[bx.cell 0,N]
 clear h j;go_enter func16,ntmps16
 go_wp2_with (first
  |(refine wpList_load_row rfl 72 _ rfl w.heap.size rfl 72 T (0,0) _ bx underlying72 rfl (by rw[hs];kernel_rfl) ?_)
  |(go_at_call 45;refine J.mono ?_;clear J;rintro e L ⟨rfl,hb⟩;have u:=F2 hb;rw[World.size_alloc] at u;have U:=QQ u;have V:=QQ (q.trans (hb.mono q.size));obtain⟨X,W,Z,Y⟩:=Zce u;clear hb u))
 refine bodyPost_ret (v:=.tuple #[.string s,.agg #[.int .i64 x,.int .i64 y]]) ?_ rfl ⟨rfl,?_⟩
 ·have O:Bx L (w.heap.size+1) #[.int .i64 0,.int .i64 0] 34:=U.out;have I:=(O.put 0 (.int .i64 x)).put 1 (.int .i64 y);have D:=I.cell 0;have C:=I.cell 1;simp only[Array.getElem?_setIfInBounds] at D C;simp[results,results16,go_sem,D,C]
 ·exact(V.setCell (Nat.le_succ _) _).setCell (Nat.le_succ _) _
structure NoSt (w wx:World)(kd fb:Int)(det:Bool):Prop where
 o:Bx wx w.heap.size #[.int .i64 kd,.int .i64 fb,.bool det,.int .i64 0] 25
 f:Bx wx (w.heap.size+1) #[.int .i64 0,.int .i64 0] 34
 low:Below w.heap.size w wx
def NoSt.below{w wx wy:World}{j fb:Int}{det:Bool}(h:NoSt w wx j fb det)(hb:Below wx.heap.size wx wy):NoSt w wy j fb det:=⟨h.o.below hb,h.f.below hb,h.low.trans (hb.mono h.low.size)⟩
def NoSt.cells{w wx:World}{j fb:Int}{det:Bool}(h:NoSt w wx j fb det):(wx.cell? ⟨w.heap.size,0,none⟩=some (.int .i64 j)/\wx.cell? ⟨w.heap.size,1,none⟩=some (.int .i64 fb)/\wx.cell? ⟨w.heap.size,2,none⟩=some (.bool det)/\wx.cell? ⟨w.heap.size,3,none⟩=some (.int .i64 0))/\
 wx.cell? ⟨w.heap.size+1,0,none⟩=some (.int .i64 0)/\wx.cell? ⟨w.heap.size+1,1,none⟩=some (.int .i64 0)/\wx.frozen? ⟨w.heap.size+1,0,none⟩=false/\wx.frozen? ⟨w.heap.size+1,1,none⟩=false:=
 ⟨⟨by rw[h.o.cell 0];rfl,by rw[h.o.cell 1];rfl,by rw[h.o.cell 2];rfl,by rw[h.o.cell 3];rfl⟩,by rw[h.f.cell 0];rfl,by rw[h.f.cell 1];rfl,h.f.free 0,h.f.free 1⟩
structure NfSt (w w2 wx:World)(kd fb:Int)(det:Bool)(T:Array Value)(p q:Value):Prop where
 s:NoSt w wx kd fb det
 t:Bx wx w2.heap.size T 72
 f:Bx wx (w2.heap.size+1) #[p,q] 34
 low:Below w2.heap.size w2 wx
 lt:w.heap.size+2<=w2.heap.size
def NfSt.below{w j wx wy:World}{u fb:Int}{det:Bool}{T:Array Value}{p q:Value}(h:NfSt w j wx u fb det T p q)(hb:Below wx.heap.size wx wy):NfSt w j wy u fb det T p q:=
 ⟨h.s.below hb,h.t.below hb,h.f.below hb,h.low.trans (hb.mono h.low.size),h.lt⟩
def NfSt.put{w j wx:World}{u fb:Int}{det:Bool}{T:Array Value}{p q:Value}(h:NfSt w j wx u fb det T p q)(x y:Value):NfSt w j ((wx.setCell ⟨j.heap.size+1,0,none⟩ x).setCell ⟨j.heap.size+1,1,none⟩ y) u fb det T x y:=by
 have C:=h.lt;exact⟨⟨(h.s.o.set (by omega) 0 x).set (by omega) 1 y,(h.s.f.set (by omega) 0 x).set (by omega) 1 y,(h.s.low.setCell (by show w.heap.size<=j.heap.size+1;omega) _).setCell (by show w.heap.size<=j.heap.size+1;omega) _⟩,
  (h.t.set (by omega) 0 x).set (by omega) 1 y,(h.f.put 0 x).put 1 y,(h.low.setCell (Nat.le_succ _) _).setCell (Nat.le_succ _) _,h.lt⟩
def NfSt.cells{w j wx:World}{u fb:Int}{det:Bool}{T:Array Value}{p q:Value}(h:NfSt w j wx u fb det T p q):((wx.cell? ⟨w.heap.size,0,none⟩=some (.int .i64 u)/\wx.cell? ⟨w.heap.size,1,none⟩=some (.int .i64 fb)/\wx.cell? ⟨w.heap.size,2,none⟩=some (.bool det)/\wx.cell? ⟨w.heap.size,3,none⟩=some (.int .i64 0))/\
 wx.cell? ⟨w.heap.size+1,0,none⟩=some (.int .i64 0)/\wx.cell? ⟨w.heap.size+1,1,none⟩=some (.int .i64 0)/\wx.frozen? ⟨w.heap.size+1,0,none⟩=false/\wx.frozen? ⟨w.heap.size+1,1,none⟩=false)/\
 wx.cell? ⟨j.heap.size+1,0,none⟩=some p/\wx.cell? ⟨j.heap.size+1,1,none⟩=some q/\wx.frozen? ⟨j.heap.size+1,0,none⟩=false/\wx.frozen? ⟨j.heap.size+1,1,none⟩=false:=⟨h.s.cells,Zce h.f⟩
def Zfz{P:Program}{ops:Array Oper}{rest:List Oper}{o:Oper}{a:Act}{w:World}{Q:Exit->Act->World->Prop}(u:o.guard=none)(ty:TypeId)(x y:Operand)(I:o.op=.store ty x y)
 (Z F T:Array Value) (j:TypeId) (D:a.eval x=.pointer (some ⟨w.heap.size,0,none⟩)) (C:a.eval y=.agg T) (J:(P.info? ty).map (·.size)=some T.size) (q:Z.size=T.size) (L:T.all (·.oneCell')=true)
 (h:∀W,Bx W w.heap.size T ty->Bx W (w.heap.size+1) F j->Below w.heap.size w W->wpList P ops Q rest (a.put o.dst undef) W):wpList P ops Q (o::rest) a ((w.alloc (.cells Z ty)).alloc (.cells F j)):=by
 have b0:Bx ((w.alloc (.cells Z ty)).alloc (.cells F j)) w.heap.size Z ty:=(Bx.new w Z ty).alloc _;have b1:Bx ((w.alloc (.cells Z ty)).alloc (.cells F j)) (w.heap.size+1) F j:=by have:=Bx.new (w.alloc (.cells Z ty)) F j;rw[World.size_alloc] at this;exact this
 refine wpList_store_row u ty x y I w.heap.size T D C ty Z b0 J q L (h _ (b0.row T) (b1.rowO (by omega) T) ?_);exact Zg5 (((Below.refl _ _).alloc (Nat.le_refl _) _).alloc (by simp) _) (Nat.le_refl _) T
def ZqX(b:ByteArray)(aE:b.size<=268435456)(V fb:Int)(det:Bool)(hr:Zdf V fb 0=true)(text:ByteArray)(ht:text.size<=268435456)(R:Array Value->World->Prop)(hR:∀T w1 U,R T w1->Below w1.heap.size w1 U->R T U)(w:World)
 (hp:∀wx,Below w.heap.size w wx->Calls prog 15 #[.string b,.agg #[.int .i64 V,.int .i64 fb,.bool det,.int .i64 0]] wx λe w'=>∃T,e=.returned (.tuple #[.agg T,.agg #[.int .i64 0,.int .i64 0]])/\(T.size=25/\T.all (·.oneCell')=true)/\R T w'/\Below wx.heap.size wx w')
 (hq:∀T wx,T.size=25->R T wx->Calls prog 16 #[.agg T] wx λe w'=>e=.returned (.tuple #[.string text,.agg #[.int .i64 0,.int .i64 0]])/\Below wx.heap.size wx w'):
 Calls prog 6 #[.string b,.agg #[.int .i64 V,.int .i64 fb,.bool det,.int .i64 0]] w λe w'=>e=.returned (.tuple #[.string text,.agg #[.int .i64 0,.int .i64 0]])/\Below w.heap.size w w':=by
 have W:=λw=>ZgV V fb 0 det w;rw[hr] at W;have X:=λw=>ZG 0 0 rfl w;clear hr;have S0:Hid (NoSt w ((w.alloc (.cells #[.int .i64 V,.int .i64 fb,.bool det,.int .i64 0] 25)).alloc (.cells #[.int .i64 0,.int .i64 0] 34)) V fb det):=QQ ⟨(Bx.new w _ _).alloc _,by have:=Bx.new (w.alloc (.cells #[.int .i64 V,.int .i64 fb,.bool det,.int .i64 0] 25)) #[.int .i64 0,.int .i64 0] 34;rw[World.size_alloc] at this;exact this,((Below.refl _ _).alloc (Nat.le_refl _) _).alloc (by simp) _⟩;go_enter func6,ntmps6
 go_upto_region 6 with(first
  |(go_at_call 5;refine(W _).mono ?_;clear W;rintro e w1 ⟨rfl,ad⟩;have S1:=QQ (S0.below ad);clear ad;obtain⟨⟨J,I,c2,D⟩,u,q,C,y⟩:=S1.cells)
  |(go_at_call 15;refine(hp _ S1.low).mono ?_;clear hp;rintro e U ⟨T,rfl,hT,ae,ac⟩;have S2:=QQ (S1.below ac);clear ac J I c2 D u q C y;have HT:=QQ hT;have HR:=QQ ae;clear hT ae)
  |(refine Zfz rfl 72 _ _ rfl _ _ T 34 rfl rfl (by rw[HT.1];kernel_rfl) (by rw[HT.1];rfl) HT.2 λw3 ab aa j=>?_;have S3:Hid (NfSt w U w3 V fb det T _ _):=QQ ⟨S2.below j,ab,aa,j,by have:=S2.f.lt;omega⟩;clear ab aa j;obtain⟨⟨⟨J,I,c2,D⟩,u,q,C,y⟩,N,L,g0,O⟩:=S3.cells))
 have S4:=QQ (S3.put (.int .i64 0) (.int .i64 0));clear S3 S2 S1 S0 J I c2 D u q C y N L g0 O;generalize (w3.setCell ⟨U.heap.size+1,0,none⟩ (.int .i64 0)).setCell ⟨U.heap.size+1,1,none⟩ (.int .i64 0)=w4 at*;obtain⟨⟨⟨J,I,c2,D⟩,u,q,C,y⟩,N,L,g0,O⟩:=S4.cells;go_upto_region 9 with(first
  |(go_at_call 8;refine MR (X _) λw5 j=>?_;have S5:=QQ (S4.below j);clear j J I c2 D u q C y N L g0 O;obtain⟨⟨⟨J,I,c2,D⟩,u,q,C,y⟩,N,L,g0,O⟩:=S5.cells)
  |(refine wpList_load_row rfl 72 _ rfl U.heap.size rfl 72 T (0,0) _ S5.t underlying72 rfl (by rw[HT.1];kernel_rfl) ?_)
  |(go_at_call 16;refine(hq T _ HT.1 (hR _ _ _ HR.out S5.low)).mono ?_;clear hq;rintro e w6 ⟨rfl,Z⟩;have S6:=QQ (S5.below Z);clear Z J I c2 D u q C y N L g0 O;obtain⟨⟨⟨J,I,c2,D⟩,u,q,C,y⟩,N,L,g0,O⟩:=S6.cells))
 have S7:=QQ (S6.put (.int .i64 0) (.int .i64 0));clear S6 S5 S4 J I c2 D u q C y N L g0 O;generalize (w6.setCell ⟨U.heap.size+1,0,none⟩ (.int .i64 0)).setCell ⟨U.heap.size+1,1,none⟩ (.int .i64 0)=w7 at*;obtain⟨⟨⟨J,I,c2,D⟩,u,q,C,y⟩,N,L,g0,O⟩:=S7.cells;go_wp2_with (go_at_call 8;refine MR (X _) λw8 Y=>?_;have S8:=QQ (S7.below Y);clear Y J I c2 D u q C y N L g0 O;obtain⟨⟨⟨J,I,c2,D⟩,u,q,C,y⟩,N,L,g0,O⟩:=S8.cells)
 refine bodyPost_ret (v:=.tuple #[.string text,.agg #[.int .i64 0,.int .i64 0]]) ?_ rfl ⟨rfl,?_⟩
 ·have h3:=(S8.s.f.put 0 (.int .i64 0)).put 1 (.int .i64 0);have p0:=h3.cell 0;have p1:=h3.cell 1;simp only[Array.getElem?_setIfInBounds] at p0 p1;simp[results,results6,go_sem,p0,p1]
 ·exact(S8.s.low.setCell (Nat.le_succ _) _).setCell (Nat.le_succ _) _
def ZeR(v:Nat)(f:Fr)(hid:f.id.length<=100000)(w:World):
 Calls prog 77 #[.int .i64 v,.agg #[.string (B f.id),.int .u8 f.st.toNat,.int .u8 f.fm.toNat,.int .u8 f.grp.toNat,.string (B f.body),.int .i64 f.at_]] w λe w'=>e=.returned (.bool (!decide (Zg v f.id=[])))/\Below w.heap.size w w':=by
 have j:=λw=>ZfF v f.id hid w;have hB:Below w.heap.size w (w.alloc (.cells #[.string (B f.id),.int .u8 f.st.toNat,.int .u8 f.fm.toNat,.int .u8 f.grp.toNat,.string (B f.body),.int .i64 f.at_] 114)):=(Below.refl _ _).alloc (Nat.le_refl _) _;have q:=QQ hB;by_cases h0:Zg v f.id=[]
 ·rw[h0,show B (Zn [])=⟨#[]⟩ from rfl] at j;rw[decide_eq_true h0];clear h0 hB;go_enter func77,ntmps77
  go_wp2_with (go_at_call 131;refine(j _).mono ?_;rintro e u ⟨rfl,rfl⟩)
  go_ret
  exact⟨rfl,q.out⟩
 ·have y:(B (Zn (Zg v f.id))).toList.isEmpty=false:=ZeX (by unfold Zn;intro h;exact h0 (List.map_eq_nil_iff.1 h));rw[decide_eq_false h0];generalize B (Zn (Zg v f.id))=s at*;clear h0 hB;go_enter func77,ntmps77
  go_wp2_with (go_at_call 131;refine(j _).mono ?_;rintro e u ⟨rfl,rfl⟩)
  go_ret
  exact⟨rfl,q.out⟩
structure It where
 f:Fr
 ps:List Pi
def Zv3{B0:Nat}{w:World}{v:Value}{l:List Pt}(h:Zk ptL B0 w v l):Zk piL B0 w v (l.map Zfm):=by
 unfold Zk at h⊢;rw[Zv4,List.length_map,ne_eq,List.map_eq_nil_iff] at*;exact h
def itV(x:It×Value):List Value:=[.string (B x.1.f.id),.int .u8 x.1.f.st.toNat,.int .u8 x.1.f.fm.toNat,.int .u8 x.1.f.grp.toNat,.string (B x.1.f.body),.int .i64 x.1.f.at_,x.2]
def Zjh(x:It×Value):(itV x).length=7:=rfl
def Zac(B0:Nat)(w:World)(v:Value)(l:List It):Prop:=∃xs:List (It×Value),xs.map (·.1)=l/\Zk itV B0 w v xs/\∀x∈xs,Zk piL B0 w x.2 x.1.ps
def Zac.below{B0:Nat}{w w':World}{v:Value}{l:List It}(h:Zac B0 w v l)(hb:Below w.heap.size w w'):Zac B0 w' v l:=by
 obtain⟨xs,y,u,q⟩:=h;exact⟨xs,y,u.below hb,λx j=>(q x j).below hb⟩
def Zac.low{B0 B1:Nat}{w:World}{v:Value}{l:List It}(h:Zac B0 w v l)(hb:B1<=B0):Zac B1 w v l:=by
 obtain⟨xs,y,u,q⟩:=h;exact⟨xs,y,u.low hb,λx j=>(q x j).low hb⟩
def Zac.len{B0:Nat}{w:World}{v:Value}{l:List It}(h:Zac B0 w v l):∃A c,v=.slice A l.length c/\l.length<=c:=by
 obtain⟨xs,rfl,j,q⟩:=h;rw[List.length_map];exact j.len
def Zk.at7{w:World}{y:Nat}{l:List (It×Value)}(h:∀j u,(l.flatMap itV)[j]?=some u->w.cell? ⟨y,j,none⟩=some u){k:Nat}{x:It×Value}(C:l[k]?=some x):
 w.cell? ⟨y,k*7,none⟩=some (.string (B x.1.f.id))/\w.cell? ⟨y,k*7+1,none⟩=some (.int .u8 x.1.f.st.toNat)/\w.cell? ⟨y,k*7+2,none⟩=some (.int .u8 x.1.f.fm.toNat)/\w.cell? ⟨y,k*7+3,none⟩=some (.int .u8 x.1.f.grp.toNat)/\w.cell? ⟨y,k*7+4,none⟩=some (.string (B x.1.f.body))/\w.cell? ⟨y,k*7+5,none⟩=some (.int .i64 x.1.f.at_)/\w.cell? ⟨y,k*7+6,none⟩=some x.2:=by
 have q:∀j,j<7->(l.flatMap itV)[k*7+j]?=(itV x)[j]?:=λj D=>Zf3 7 itV Zjh l k j x C D;exact⟨h _ _ (q 0 (by decide)),h _ _ (q 1 (by decide)),h _ _ (q 2 (by decide)),h _ _ (q 3 (by decide)),h _ _ (q 4 (by decide)),h _ _ (q 5 (by decide)),h _ _ (q 6 (by decide))⟩
def ZuC:(prog.info? 137).map (λi=>(i.zero,i.size,i.bytes))=some (some (.agg #[.string ⟨#[]⟩,.int .u8 0,.int .u8 0,.int .u8 0,.string ⟨#[]⟩,.int .i64 0,.slice none 0 0]),7,80):=by kernel_rfl
section
variable {ops:Array Oper} {rest:List Oper} {o:Oper} {a:Act} {Q:Exit->Act->World->Prop}
theorem ZlQ(N:o.guard=none)(s x:Operand)(ho:o.op=.call {callee:=.builtin .append,args:=#[s,x],argTypes:=#[52,52]})(base:Nat)(v:Value)(L:List (It×Value))(hs:a.eval s=v)(W:World)(p:It×Value)(cs:Array Value)(O:cs=(itV p).toArray)(h1:p.2.oneCell'=true)
 (q:W.ownsRow base 137 7 v L.length (L.flatMap itV)) (C:base<=W.heap.size) (X:L.length<=16777216) (hx:a.eval x=.slice (some ⟨W.heap.size,0,none⟩) 1 1)
 (h:∀U w',Hid (w'.ownsRow base 137 7 U (L++[p]).length ((L++[p]).flatMap itV))->Below base W w'->W.grownBy w' v.ownBlock->wpList prog ops Q rest (a.put o.dst U) w'):
 wpList prog ops Q (o::rest) a (W.alloc (.cells cs 137)):=by
 obtain⟨i0,hi,J,I,D⟩:=info_parts ZuC;rw[O];refine wpList_append_own _ N s x 52 ho base 137 i0 _ 7 80 underlying52 hi J I D rfl (by decide) v L.length _ hs (q.alloc _) ⟨W.heap.size,0,none⟩ 1 1 (itV p) hx rfl (Zgo W (itV p) _) ?_ (by unfold maxLen;omega) (by omega) (by simp;omega) ?_
 ·intro u V;simp only[itV,List.mem_cons,List.not_mem_nil,or_false] at V;rcases V with rfl|rfl|rfl|rfl|rfl|rfl|rfl<;>first|rfl|exact h1
 ·intro Z Y y j _;refine h Z Y (QQ ?_) (Zad ((Below.refl _ W).alloc C _) (q.alloc _) j (by simp;omega) (Nat.le_refl _)) ⟨j.os,j.tape,j.output,by have:=j.size;simp at this;omega,λk hk hc=>(j.block k (by simp;omega) hc).trans (Below.heap_alloc _ _ _ hk)⟩;rw[List.flatMap_append,List.length_append];simpa[itV] using y
end
def Zoj{base B0:Nat}{W Y:World}{v s:Value}{L:List (It×Value)}{ps:List Pi}(y:W.ownsRow base 137 7 v L.length (L.flatMap itV))(hn:L=[]->v=.slice none 0 0)(O:W.grownBy Y v.ownBlock)(h:Zk piL B0 W s ps):Zk piL B0 Y s ps:=by
 rcases h with h|⟨C,c,h0,h1,h2,h5,V,U⟩
 ·exact .inl h
 ·have D:v.ownBlock≠some C:=by
   intro e;by_cases J:L=[]
   ·rw[hn J] at e;cases e
   ·obtain⟨x,hx⟩:∃x,L[0]?=some x:=by
     cases L with
     |nil=>exact absurd rfl J
     |cons a l=>exact⟨a,rfl⟩
    rcases Zk.of_own (f:=itV) rfl y hn with⟨q,_⟩|⟨g,cap,q0,q1,q2,q3,q4,Z⟩
    ·exact J q
    ·subst q1;have I:g=C:=by simpa[Value.ownBlock] using e
     subst I;have X:=(Zk.at7 Z hx).2.1;obtain⟨p,hp⟩:∃p,ps[0]?=some p:=by
      cases ps with
      |nil=>exact absurd rfl h0
      |cons a l=>exact⟨a,rfl⟩
     have N:=(Zk.at4 U hp).2.1;simp only[Nat.zero_mul] at X N;rw[X] at N;cases N
  refine .inr ⟨C,c,h0,h1,h2,h5,Nat.lt_of_lt_of_le V O.size,λj u hu=>?_⟩;have hb:=O.block C V (λe=>D e.symm);rw[<-U j u hu];unfold World.cell?;rw[hb]
def T67(j:Int)(v:Nat)(r f:UInt8)(it:Value)(s:List UInt8):Array Value:=#[.int .i64 j,.int .i64 v,.int .u8 r.toNat,.int .u8 f.toNat,it,.string (B s),
 .int .u8 0,.int .u64 0,.int .u32 0,.int .u32 0,.string ⟨#[]⟩,.string ⟨#[]⟩,.string ⟨#[]⟩,.int .i64 0,.slice none 0 0,.string ⟨#[]⟩,.slice none 0 0,
 .slice none 0 0,.string ⟨#[]⟩,.int .i64 0,.slice none 0 0,.int .i64 0,.string ⟨#[]⟩,.slice none 0 0,.int .i64 0]
def Zpk(j:Int)(v:Nat)(r f:UInt8)(it:Value)(s:List UInt8):(T67 j v r f it s).size=25:=rfl
def Zbw(j:Int)(v:Nat)(r f:UInt8)(it:Value)(s:List UInt8)(h:it.oneCell'=true):(T67 j v r f it s).all (·.oneCell')=true:=by
 unfold T67;simp[h]
 repeat (first|exact rfl|refine And.intro rfl ?_)
def t67_it(q:Int)(v:Nat)(r f:UInt8)(it j:Value)(s:List UInt8):(T67 q v r f it s).setIfInBounds 4 j=T67 q v r f j s:=rfl
def t67_kd(j k2:Int)(v:Nat)(r f:UInt8)(it:Value)(s:List UInt8):(T67 j v r f it s).setIfInBounds 0 (.int .i64 k2)=T67 k2 v r f it s:=rfl
def Zh0{P:Program}{ops:Array Oper}{rest:List Oper}{o:Oper}{a:Act}{w:World}{Q:Exit->Act->World->Prop}(y:o.guard=none)(t:TypeId)(j:Array (Nat×Operand))(u:o.op=.build t j)(v:Array Value)
 (q:P.built t (j.map λ(i,x)=>(i,a.eval x)).toList=some v)
 (h:wpList P ops Q rest (a.put o.dst (.agg v)) w):wpList P ops Q (o::rest) a w:=
 wpList_build y t j u (by rw[q];rfl) (by rw[q];exact h)
def ZeD{P:Program}{fn:Func}{p q:Tmp}{ty j:TypeId}(h:fn.results=#[.cell p ty,.cell q j])(tmps:Array Value)(w:World)(g k:Nat)(T N:TypeId)(cs u:Array Value)(fr y:Nat×Nat)(d d2:TypeDesc)
 (V:tmps.getD p undef=.pointer (some ⟨g,0,none⟩)) (U:tmps.getD q undef=.pointer (some ⟨k,0,none⟩)) (Y:w.heap[g]?=some (.cells cs T fr)) (W:w.heap[k]?=some (.cells u N y))
 (O:P.underlying ty=some d) (hd:(match d with| .struct _| .array _ _=>true|_=>false)=true) (X:(P.info? ty).map (·.size)=some cs.size)
 (C:P.underlying j=some d2) (L:(match d2 with| .struct _| .array _ _=>true|_=>false)=true) (J:(P.info? j).map (·.size)=some u.size):
 (results fn tmps).run P w=.ok (.tuple #[.agg cs,.agg u]) w:=by
 have I:tmps[p]?.getD undef=.pointer (some ⟨g,0,none⟩):=by simpa using V
 have D:tmps[q]?.getD undef=.pointer (some ⟨k,0,none⟩):=by simpa using U
 simp[results,h,I,D,asAddr,run_loadVar_row w g T ty cs fr d Y O hd X,run_loadVar_row w k N j u y d2 W C L J]
def ZdA{P:Program}{fn:Func}{p t:Tmp}{ty:TypeId}(h:fn.results=#[.cell p ty,.tmp t])(tmps:Array Value)(w:World)(g:Nat)(T:TypeId)(cs:Array Value)(fr:Nat×Nat)(d:TypeDesc)(u:Value)
 (D:tmps.getD p undef=.pointer (some ⟨g,0,none⟩)) (C:tmps.getD t undef=u) (J:w.heap[g]?=some (.cells cs T fr))
 (y:P.underlying ty=some d) (hd:(match d with| .struct _| .array _ _=>true|_=>false)=true) (I:(P.info? ty).map (·.size)=some cs.size):
 (results fn tmps).run P w=.ok (.tuple #[.agg cs,u]) w:=by
 have q:tmps[p]?.getD undef=.pointer (some ⟨g,0,none⟩):=by simpa using D
 have j:tmps[t]?.getD undef=u:=by simpa using C
 simp[results,h,q,j,asAddr,run_loadVar_row w g T ty cs fr d J y hd I]
noncomputable def Zcj(j:Nat->List UInt8->Except (Nat×Nat) (List UInt8×Nat))(v:Nat)(f:Fr):Option It:=
 if Zg v f.id=[] then some ⟨f,[]⟩ else if ZQ v f.fm=true then none else
 match ZbE j v f.id f.body with| .error _=>none| .ok l=>some ⟨{f with body:=[]},l.map Zfm⟩
structure WhSt (w wx:World)(F:Nat)(I X:Array Value):Prop where
 i:Bx wx w.heap.size I 137
 r:Bx wx (w.heap.size+1) #[.string ⟨#[]⟩,.int .u8 0,.int .u8 0,.int .u8 0,.string ⟨#[]⟩,.int .i64 0] 114
 f:Bx wx F X 114
 low:Below w.heap.size w wx
 hF:w.heap.size+1<F
def WhSt.below{w wx wy:World}{F:Nat}{I X:Array Value}(h:WhSt w wx F I X)(hb:Below wx.heap.size wx wy):WhSt w wy F I X:=⟨h.i.below hb,h.r.below hb,h.f.below hb,h.low.trans (hb.mono h.low.size),h.hF⟩
def WhSt.new(w:World)(I X:Array Value):WhSt w (((w.alloc (.cells I 137)).alloc (.cells #[.string ⟨#[]⟩,.int .u8 0,.int .u8 0,.int .u8 0,.string ⟨#[]⟩,.int .i64 0] 114)).alloc (.cells X 114)) (w.heap.size+1+1) I X:=by
 refine⟨((Bx.new w _ _).alloc _).alloc _,?_,?_,(((Below.refl _ _).alloc (Nat.le_refl _) _).alloc (by simp) _).alloc (by simp;omega) _,by omega⟩
 ·have:=(Bx.new (w.alloc (.cells I 137)) #[.string ⟨#[]⟩,.int .u8 0,.int .u8 0,.int .u8 0,.string ⟨#[]⟩,.int .i64 0] 114).alloc (.cells X 114);rw[World.size_alloc] at this;exact this
 ·have:=Bx.new ((w.alloc (.cells I 137)).alloc (.cells #[.string ⟨#[]⟩,.int .u8 0,.int .u8 0,.int .u8 0,.string ⟨#[]⟩,.int .i64 0] 114)) X 114;rw[World.size_alloc,World.size_alloc] at this;exact this
def WhSt.cells{w wx:World}{a0 V U O N L J I D C y u q:Value}{F:Nat}(h:WhSt w wx F #[a0,V,U,O,N,L,J] #[I,D,C,y,u,q]):
 wx.cell? ⟨w.heap.size,6,none⟩=some J/\(wx.cell? ⟨F,0,none⟩=some I/\wx.cell? ⟨F,1,none⟩=some D/\wx.cell? ⟨F,2,none⟩=some C/\wx.cell? ⟨F,3,none⟩=some y/\wx.cell? ⟨F,4,none⟩=some u/\wx.cell? ⟨F,5,none⟩=some q/\wx.frozen? ⟨F,4,none⟩=false)/\
 ((wx.cell? ⟨w.heap.size+1,0,none⟩=some (.string ⟨#[]⟩)/\wx.cell? ⟨w.heap.size+1,1,none⟩=some (.int .u8 0)/\wx.cell? ⟨w.heap.size+1,2,none⟩=some (.int .u8 0)/\wx.cell? ⟨w.heap.size+1,3,none⟩=some (.int .u8 0)/\wx.cell? ⟨w.heap.size+1,4,none⟩=some (.string ⟨#[]⟩)/\wx.cell? ⟨w.heap.size+1,5,none⟩=some (.int .i64 0))/\(∀j,wx.frozen? ⟨w.heap.size+1,j,none⟩=false))/\F<wx.heap.size:=
 ⟨h.i.cell 6,⟨h.f.cell 0,h.f.cell 1,h.f.cell 2,h.f.cell 3,h.f.cell 4,h.f.cell 5,h.f.free 4⟩,⟨⟨h.r.cell 0,h.r.cell 1,h.r.cell 2,h.r.cell 3,h.r.cell 4,h.r.cell 5⟩,h.r.free⟩,h.f.lt⟩
def ZeY{w:World}{g:Nat}{T:TypeId}{D C y u q j:Value}(h:Bx w g #[D,C,y,u,q,j] T)(a b c d e f:Value):Bx ((((((w.setCell ⟨g,0,none⟩ a).setCell ⟨g,1,none⟩ b).setCell ⟨g,2,none⟩ c).setCell ⟨g,3,none⟩ d).setCell ⟨g,4,none⟩ e).setCell ⟨g,5,none⟩ f) g #[a,b,c,d,e,f] T:=
 (((((h.put 0 a).put 1 b).put 2 c).put 3 d).put 4 e).put 5 f
def ZqD(v:Nat)(f:Fr)(hid:f.id.length<=100000)(A:Option Addr)(c:Nat)(ps:List Pi)(w:World)(hr:RdN 4 piL w w.heap.size A ps)(ad:∀p∈ps,p.text.length<=100000)(hG:Grd w)(h0:Zg v f.id≠[])(ae:ZaT v f.id ps=(0,0))(hb:f.body=[])(hl:ZQ v f.fm=false):
 Calls prog 93 #[.agg #[.string (B f.id),.int .u8 f.st.toNat,.int .u8 f.fm.toNat,.int .u8 f.grp.toNat,.string (B f.body),.int .i64 f.at_,.slice A ps.length c],.int .i64 v] w λe w'=>
  e=.returned (.tuple #[.agg #[.string (B f.id),.int .u8 f.st.toNat,.int .u8 f.fm.toNat,.int .u8 f.grp.toNat,.string (B (UInt8.ofNat (Zbe v)::prL (Zbe v) (Zg v f.id) ps)),.int .i64 f.at_],.int .i64 0])/\Below w.heap.size w w':=by
 have y:=λw=>ZeR v f hid w;rw[decide_eq_false h0,Bool.not_false] at y;have D:∀wx,Below w.heap.size w wx->Calls prog 111 #[.int .i64 v,.string (B f.id),.slice A ps.length c] wx (ZeS wx (UInt8.ofNat (Zbe v)::prL (Zbe v) (Zg v f.id) ps)):=λwx hb=>ZkY v f.id hid A c ps wx ((hr.below hb).more hb.size) ad (hG.below hb) h0 ae;unfold ZeS at D;have C:=λw=>Zdk (B f.id) f.st f.fm v w;rw[Int.toNat_natCast,hl] at C;have ap:=λw=>ZG 0 0 rfl w;generalize UInt8.ofNat (Zbe v)::prL (Zbe v) (Zg v f.id) ps=ac at*;generalize Value.slice A ps.length c=vp at*;have af:f.body=[]:=hb;rw[af,show B []=⟨#[]⟩ from rfl] at y⊢;generalize B f.id=id at*;generalize f.at_=at_ at*;generalize f.st.toNat=st at*;generalize f.fm.toNat=fm at*;generalize f.grp.toNat=grp at*;have bi:Bx ((w.alloc (.cells #[.string id,.int .u8 st,.int .u8 fm,.int .u8 grp,.string ⟨#[]⟩,.int .i64 at_,vp] 137)).alloc (.cells #[.string ⟨#[]⟩,.int .u8 0,.int .u8 0,.int .u8 0,.string ⟨#[]⟩,.int .i64 0] 114)) w.heap.size #[.string id,.int .u8 st,.int .u8 fm,.int .u8 grp,.string ⟨#[]⟩,.int .i64 at_,vp] 137:=(Bx.new w _ _).alloc _;have hm:((w.alloc (.cells #[.string id,.int .u8 st,.int .u8 fm,.int .u8 grp,.string ⟨#[]⟩,.int .i64 at_,vp] 137)).alloc (.cells #[.string ⟨#[]⟩,.int .u8 0,.int .u8 0,.int .u8 0,.string ⟨#[]⟩,.int .i64 0] 114)).rangeAt w.heap.size 0 [.string id,.int .u8 st,.int .u8 fm,.int .u8 grp,.string ⟨#[]⟩,.int .i64 at_]:=λj u q=>by
  rw[Nat.zero_add,bi.cell j];have hj:j<6:=(List.getElem?_eq_some_iff.1 q).1
  match j,hj,q with
  |0,_,q=>exact q
  |1,_,q=>exact q
  |2,_,q=>exact q
  |3,_,q=>exact q
  |4,_,q=>exact q
  |5,_,q=>exact q
 have Hm:=QQ hm;have S0:=QQ (WhSt.new w #[.string id,.int .u8 st,.int .u8 fm,.int .u8 grp,.string ⟨#[]⟩,.int .i64 at_,vp] #[.string id,.int .u8 st,.int .u8 fm,.int .u8 grp,.string ⟨#[]⟩,.int .i64 at_]);clear hm bi hb af hl ae h0 hid ad hr;go_enter func93,ntmps93
 go_upto_region 2 with(refine wpList_load_mid rfl 114 _ rfl w.heap.size 0 rfl [.string id,.int .u8 st,.int .u8 fm,.int .u8 grp,.string ⟨#[]⟩,.int .i64 at_] _ Hm.out underlying114 rfl (by kernel_rfl) ?_)
 clear Hm;generalize (((w.alloc _).alloc _).alloc _)=W0 at*;generalize w.heap.size+1+1=F at*;have hF:=S0.hF;obtain⟨V,⟨c0,c1,c2,Z,Y,X,W⟩,⟨⟨O,N,r2,L,r4,J⟩,I⟩,U⟩:=S0.cells;go_upto_region 6 with(go_at_call 77;refine(y _).mono ?_;clear y;rintro e w1 ⟨rfl,ak⟩;have S1:=QQ (S0.below ak);clear ak S0 V c0 c1 c2 Z Y X W O N r2 L r4 J I U;obtain⟨V,⟨c0,c1,c2,Z,Y,X,W⟩,⟨⟨O,N,r2,L,r4,J⟩,I⟩,U⟩:=S1.cells)
 go_upto_region 9 with(first
  |(go_at_call 111;refine(D _ S1.low).mono ?_;clear D;rintro e w2 ⟨rfl,aj⟩;have S2:=QQ (S1.below aj);clear aj S1 V c0 c1 c2 Z Y X W O N r2 L r4 J I U)
  |(go_at_call 8;refine MR (ap _) λw3 ai=>?_;have S3:=QQ (((S2.below ((Below.refl _ _).alloc (Nat.le_refl _) _))).below ai);clear ai S2;obtain⟨V,⟨c0,c1,c2,Z,Y,X,W⟩,⟨⟨O,N,r2,L,r4,J⟩,I⟩,U⟩:=S3.cells))
 go_wp2_with (go_at_call 78;refine(C _).mono ?_;clear C;rintro e w4 ⟨rfl,ah⟩;have S4:=QQ (S3.below ah);clear ah S3 V c0 c1 c2 Z Y X W O N r2 L r4 J I U;obtain⟨V,⟨c0,c1,c2,Z,Y,X,W⟩,⟨⟨O,N,r2,L,r4,J⟩,I⟩,U⟩:=S4.cells)
 have X1:=ZeY (S4.r.set (k:=F) (by omega) 4 (.string (B ac))) (.string id) (.int .u8 st) (.int .u8 fm) (.int .u8 grp) (.string (B ac)) (.int .i64 at_);refine bodyPost_ret (ZdA rfl _ _ (w.heap.size+1) _ _ _ _ _ rfl rfl X1 underlying114 rfl (by kernel_rfl)) rfl ⟨rfl,?_⟩;exact Zft (S4.low.setCell (p:=⟨F,4,none⟩) (by show w.heap.size<=F;omega) _) (Nat.le_succ _) _ _ _ _ _ _
