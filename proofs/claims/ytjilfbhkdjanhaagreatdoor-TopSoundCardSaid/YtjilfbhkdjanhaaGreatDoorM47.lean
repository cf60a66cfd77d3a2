/- Lemmas for a statement on the tops; conditions: as each says. -/
import Derived.Test.YtjilfbhkdjanhaaGreatDoorM46
set_option linter.all false
set_option maxRecDepth 100000
set_option maxHeartbeats 4000000
open Go.Proofs.Tryz
namespace Go.Proofs.YtjilfbhkdjanhaaGreatDoor
open Go Go.RowKit
def Zlw(b:List UInt8)(J:b.length<=900000000)(w:World):Calls prog 7 #[.string (B b)] w λe w'=>∃(v rev fl:Int) (A:Option Addr) (n c:Nat) (u:ByteArray) (fn D:Int),e=.returned (.tuple #[.agg #[.int .i64 v,.int .u8 rev,.int .u8 fl,.slice A n c],.string u,.agg #[.int .i64 fn,.int .i64 D]])/\(∀r,ZS b=.ok r->u=B r.2/\fn=0/\D=0)/\Below w.heap.size w w':=by
 refine(Zis b J w).mono ?_;rintro e w' ⟨y,q⟩;cases C:ZS b with
 |error x=>
  rw[C] at q;exact⟨0,0,0,none,0,0,⟨#[]⟩,_,_,q.1,(λr j=>by cases j),y⟩
 |ok r=>
  rw[C] at q;obtain⟨o,u⟩:=r;cases o with
  |none=>exact⟨0,0,0,none,0,0,B u,0,0,q,(λr j=>by injection j with j;subst j;exact⟨rfl,rfl,rfl⟩),y⟩
  |some t=>
   obtain⟨vl,q,L⟩:=q;obtain⟨A,c,I,N⟩:=L.len;subst I;exact⟨_,_,_,A,_,c,B u,0,0,q,(λr j=>by injection j with j;subst j;exact⟨rfl,rfl,rfl⟩),y⟩
def B_two(a b:List UInt8):B a++B b=B (a++b):=by
 apply ByteArray.ext
 show(B a++B b).data=_
 rw[ByteArray.data_append];unfold B;simp
def B_end(a q:List UInt8):(B (a++q)).extract a.length (a++q).length=B q:=by
 rw[Zby,List.drop_left];congr 1
 exact List.take_of_length_le (by rw[List.length_append];omega)
structure SdSt (w wx:World)(OA XA:Array Value):Prop where
 o:Bx wx w.heap.size OA 25
 x:Bx wx (w.heap.size+1) XA 29
 low:Below w.heap.size w wx
def SdSt.below{w wx wy:World}{OA j:Array Value}(h:SdSt w wx OA j)(hb:Below wx.heap.size wx wy):SdSt w wy OA j:=⟨h.o.below hb,h.x.below hb,h.low.trans (hb.mono h.low.size)⟩
def SdSt.alloc{w wx:World}{OA j:Array Value}(h:SdSt w wx OA j)(ob:Obj):SdSt w (wx.alloc ob) OA j:=h.below ((Below.refl _ _).alloc NL _)
def SdSt.putO{w wx:World}{OA q:Array Value}(h:SdSt w wx OA q)(j:Nat)(v:Value):SdSt w (wx.setCell ⟨w.heap.size,j,none⟩ v) (OA.setIfInBounds j v) q:=
 ⟨h.o.put j v,h.x.set (by omega) j v,h.low.setCell NL v⟩
def Bx.seven{w:World}{G:Nat}{a b c d e f g:Value}{T:TypeId}(H:Bx w G #[a,b,c,d,e,f,g] T):w.cell? ⟨G,0,none⟩=some a/\w.cell? ⟨G,1,none⟩=some b/\w.cell? ⟨G,2,none⟩=some c/\w.cell? ⟨G,3,none⟩=some d/\w.cell? ⟨G,4,none⟩=some e/\w.cell? ⟨G,5,none⟩=some f/\w.cell? ⟨G,6,none⟩=some g:=⟨H.cell 0,H.cell 1,H.cell 2,H.cell 3,H.cell 4,H.cell 5,H.cell 6⟩
def Bx.pair{w:World}{G:Nat}{a b:Value}{T:TypeId}(H:Bx w G #[a,b] T):w.cell? ⟨G,0,none⟩=some a/\w.cell? ⟨G,1,none⟩=some b:=⟨H.cell 0,H.cell 1⟩
def Zsl(b:List UInt8)(kd fb C:Int)(det:Bool)(t:Tl)(h9:∀k,(tlN t k).length<=9223372036854775807)(bQ:b.length<=9223372036854775807)(w:World)(hG:Ev.Gl w)(hw:Wk w):
 Calls prog 3 #[.string (B b),.agg #[.int .i64 kd,.int .i64 fb,.bool det,.int .i64 C],.agg (tlA t)] w λe w'=>e=.returned (.bool true)/\Below w.heap.size w w':=by
 have aH:=λwx (hb:Below w.heap.size w wx)=>Aw_top wx (hG.below hb);have y:=λwx=>ZgV kd fb C det wx;have ad:=λwx=>ZG 0 0 rfl wx;have aE:=λ(n a:Int) (hn:1<=n) wx=>ZV n a (by omega) wx;have q:=λwx=>Zsk t h9 wx;have HW:=QQ hw;have bH:=Zj b;unfold ZgZ at q;unfold tlA at*;have S0:Hid (SdSt w ((w.alloc (.cells #[.int .i64 kd,.int .i64 fb,.bool det,.int .i64 C] 25)).alloc (.cells #[.string (B t.a),.string (B t.b),.string (B t.c),.string (B t.d),.string (B t.e),.int .u8 t.tr.toNat,.int .u8 t.g.toNat] 29)) #[.int .i64 kd,.int .i64 fb,.bool det,.int .i64 C] #[.string (B t.a),.string (B t.b),.string (B t.c),.string (B t.d),.string (B t.e),.int .u8 t.tr.toNat,.int .u8 t.g.toNat]):=QQ ⟨(Bx.new w _ _).alloc _,by have:=Bx.new (w.alloc (.cells #[.int .i64 kd,.int .i64 fb,.bool det,.int .i64 C] 25)) #[.string (B t.a),.string (B t.b),.string (B t.c),.string (B t.d),.string (B t.e),.int .u8 t.tr.toNat,.int .u8 t.g.toNat] 29;rw[World.size_alloc] at this;exact this,((Below.refl _ w).alloc NL _).alloc (by rw[World.size_alloc];exact Nat.le_succ _) _⟩;clear hw hG h9;go_enter func3,ntmps3
 go_upto_region 3 with(go_at_call 4;refine(aH _ S0.low).mono ?_;clear aH;rintro e w1 ⟨rfl,aG⟩;have S1:=QQ (S0.below aG);clear S0 aG)
 have y1:=S1.o.four;by_cases bj:1000<b.length
 ·clear y;go_wp2_with fail
  go_ret
  exact⟨rfl,S1.low⟩
 rcases hrb:Zdf kd fb C with _|_
 ·rw[hrb] at y;go_wp2_with (go_at_call 5;refine(y _).mono ?_;clear y;rintro e w3 ⟨rfl,D⟩;have S2:=QQ (S1.below D);have y3:=S2.o.four;clear D)
  go_ret
  exact⟨rfl,S2.low⟩
 rw[hrb] at y;have L:0<=C:=by unfold Zdf at hrb;rw[decide_eq_true_eq] at hrb;exact hrb.2.2.1
 by_cases bO:0<C
 ·go_wp2_with (go_at_call 5;refine(y _).mono ?_;clear y;rintro e w3 ⟨rfl,D⟩;have S2:=QQ (S1.below D);have y3:=S2.o.four;clear D)
  go_ret
  exact⟨rfl,S2.low⟩
 have a4:C=0:=by omega
 subst a4;obtain⟨U,a3,aD⟩:∃n:Nat,fb=n/\n<=6:=by
  unfold Zdf at hrb;rw[decide_eq_true_eq] at hrb;exact⟨fb.toNat,by omega,by omega⟩
 subst a3;clear hrb L;go_upto_region 5 with(go_at_call 5;refine(y _).mono ?_;clear y;rintro e w3 ⟨rfl,D⟩;have S2:=QQ (S1.below D);have y3:=S2.o.four;clear D S1 y1)
 go_upto_region 6 with fail
 have S3:Hid (SdSt w _ #[.int .i64 1,.int .i64 U,.bool det,.int .i64 0] #[.string (B t.a),.string (B t.b),.string (B t.c),.string (B t.d),.string (B t.e),.int .u8 t.tr.toNat,.int .u8 t.g.toNat]):=QQ (S2.putO 0 (.int .i64 1));generalize (w3.setCell ⟨w.heap.size,0,none⟩ (.int .i64 1))=w4 at*;clear S2 y3;have z1:=S3.o.four;have j:=Zk7 b (by omega) U aD det w4 (HW.below S3.low);have aC:ZcB U det b=ZcB U det b:=rfl;unfold ZN at j;cases J:ZcB U det b with
 |none=>
  rw[J] at j;simp only at j;have V:=λwx=>Zlw b (by omega) wx;clear J aC q;go_upto_region 7 with(go_at_call 6;refine j.mono ?_;clear j;rintro e w5 ⟨X,n,a,rfl,hn⟩;have S4:=QQ ((S3.below X).alloc (.cells #[.int .i64 n,.int .i64 a] 34));have F4:=QQ (Bx.new w5 #[.int .i64 n,.int .i64 a] 34);have L:=aE n a hn;clear X hn z1 S3)
  generalize (w5.alloc (.cells #[.int .i64 n,.int .i64 a] 34))=w6 at*;generalize w5.heap.size=F at*;go_upto_region 8 with(go_at_call 7;refine(V _).mono ?_;clear V;rintro e w7 ⟨v,rev,fl,A,m,c,sd,fn,fa,rfl, -,N⟩;have S5:=QQ (((S4.below N).alloc (.cells #[.int .i64 v,.int .u8 rev,.int .u8 fl,.slice A m c] 41)).alloc (.cells #[.int .i64 fn,.int .i64 fa] 34));have F5:=QQ (((F4.below N).alloc (.cells #[.int .i64 v,.int .u8 rev,.int .u8 fl,.slice A m c] 41)).alloc (.cells #[.int .i64 fn,.int .i64 fa] 34));clear N S4 F4)
  have f5:=F5.pair;go_wp2_with (go_at_call 8;refine(L _).mono ?_;clear L;rintro e w8 ⟨rfl,aF⟩;have S6:=QQ (S5.below aF);clear aF)
  go_ret
  exact⟨rfl,S6.low⟩
 |some s=>
  rw[J] at j;simp only at j;have V:=λwx=>Zlw b (by omega) wx;obtain⟨r,aq,a,ao⟩:=Zu6 J;have bM:=ZjG aq;have bK:=Zu4 J (by omega);have bJ:=Zj s;have bL:=Zj r.2;have bP:r.2.length<=s.length:=by rw[ao,List.length_append];omega
  have an:(B s).extract (s.length - r.2.length) s.length=B r.2:=by
   subst ao;have:=B_end a r.2;rw[show(a++r.2).length - r.2.length=a.length by rw[List.length_append];omega];exact this
  have bb:=QQ an;have au:=QQ (Zu5 J);have bc:=QQ aq;clear J aC an ao aq;go_upto_region 7 with(go_at_call 6;refine j.mono ?_;clear j;rintro e w5 ⟨X,rfl⟩;have S4:=QQ ((S3.below X).alloc (.cells #[.int .i64 0,.int .i64 0] 34));have F4:=QQ (Bx.new w5 #[.int .i64 0,.int .i64 0] 34);clear X z1 S3)
  generalize (w5.alloc (.cells #[.int .i64 0,.int .i64 0] 34))=w6 at*;generalize w5.heap.size=F at*;go_upto_region 8 with(go_at_call 7;refine(V _).mono ?_;clear V;rintro e w7 ⟨v,rev,fl,A,m,c,sd,fn,fa,rfl,aB,N⟩;obtain⟨rfl,rfl,rfl⟩:=aB _ bc.out;have S5:=QQ (((S4.below N).alloc (.cells #[.int .i64 v,.int .u8 rev,.int .u8 fl,.slice A m c] 41)).alloc (.cells #[.int .i64 0,.int .i64 0] 34));have F5:=QQ (((F4.below N).alloc (.cells #[.int .i64 v,.int .u8 rev,.int .u8 fl,.slice A m c] 41)).alloc (.cells #[.int .i64 0,.int .i64 0] 34));have G5:=QQ (Bx.new (w7.alloc (.cells #[.int .i64 v,.int .u8 rev,.int .u8 fl,.slice A m c] 41)) #[.int .i64 0,.int .i64 0] 34);clear N S4 F4 aB)
  rw[World.size_alloc] at G5;generalize ((w7.alloc (.cells #[.int .i64 v,.int .u8 rev,.int .u8 fl,.slice A m c] 41)).alloc (.cells #[.int .i64 0,.int .i64 0] 34))=w9 at*;generalize w7.heap.size=G at*;have f5:=F5.pair;have g5:=G5.pair;go_upto_region 10 with(go_at_call 8;refine MR (ad _) λbF O=>?_;have S6:=QQ (S5.below O);have F6:=QQ (F5.below O);have G6:=QQ (G5.below O);clear O f5 g5 S5 F5 G5)
  have f6:=F6.pair;have g6:=G6.pair;have an:=bb.out;have bi:¬s.length<r.2.length:=by omega
  go_upto_region 12 with(go_at_call 8;refine MR (ad _) λbE ab=>?_;have S7:=QQ (S6.below ab);have F7:=QQ (F6.below ab);clear ab f6 g6 S6 F6 G6)
  have x7:=S7.x.seven;cases W:okT t with
  |false=>
   rw[W] at q;simp only[Bool.false_eq_true,if_false] at q;go_upto_region 13 with(go_at_call 9;refine(q _).mono ?_;clear q;rintro e ak ⟨u,n,a,hn,rfl⟩;have S8:=QQ ((S7.below u).alloc (.cells #[.int .i64 n,.int .i64 a] 34));have E8:=QQ (Bx.new ak #[.int .i64 n,.int .i64 a] 34);have L:=aE n a hn;clear u hn)
   have e8:=E8.pair;go_wp2_with (go_at_call 8;refine(L _).mono ?_;clear L;rintro e aA ⟨rfl,I⟩;have S9:=QQ (S8.below I);clear I)
   go_ret
   exact⟨rfl,S9.low⟩
  |true=>
   rw[W] at q;simp only[if_true] at q;have ap:=Zoz W;have aM:=QQ W;clear W;go_upto_region 13 with(go_at_call 9;refine(q _).mono ?_;clear q;rintro e ak ⟨u,rfl⟩;have S8:=QQ ((S7.below u).alloc (.cells #[.int .i64 0,.int .i64 0] 34));have F8:=QQ ((F7.below u).alloc (.cells #[.int .i64 0,.int .i64 0] 34));have E8:=QQ (Bx.new ak #[.int .i64 0,.int .i64 0] 34);clear u)
   have e8:=E8.pair;clear x7 S7 F7;go_upto_region 15 with(go_at_call 8;refine MR (ad _) λaA I=>?_;have S9:=QQ (S8.below I);clear I S8 F8 E8 e8)
   have z9:=S9.o.four;have a2:=au.out (Zaa t) (ZjQ t);have j:=Zk7 (b++Zaa t) (by rw[List.length_append];omega) U aD det aA (HW.below S9.low);rw[a2] at j;unfold ZN at j;simp only at j;rw[<-B_two] at j;have bN:=Zj (Zaa t);have am:=λwx=>Zsd (s++Zaa t) (by rw[List.length_append];omega) wx;rw[ZwH aM.out] at am;have ac:=λwx=>Zsj (Zaa t) ap (ZjQ t) wx;rw[ZwW aM.out] at ac;unfold tlA at ac;have bh:(B b).size+(B (Zaa t)).size<=1128:=by omega
   go_upto_region 16 with(go_at_call 6;refine j.mono ?_;clear j;rintro e aj ⟨af,rfl⟩;have aL:=QQ ((S9.below af).alloc (.cells #[.int .i64 0,.int .i64 0] 34));have aO:=QQ (Bx.new aj #[.int .i64 0,.int .i64 0] 34);clear af z9 S9)
   generalize (aj.alloc (.cells #[.int .i64 0,.int .i64 0] 34))=bD at*;generalize aj.heap.size=Hf at*;go_upto_region 17 with(go_at_call 10;refine(am _).mono ?_;clear am;rintro e bC ⟨rfl,aa⟩;have aK:=QQ (aL.below aa);have aN:=QQ (aO.below aa);clear aa aL aO)
   go_upto_region 18 with(go_at_call 11;refine(ac _).mono ?_;clear ac;rintro e ai ⟨rfl,Z⟩;have a9:=QQ ((aK.below Z).alloc (.cells #[.string (B t.a),.string (B t.b),.string (B t.c),.string (B t.d),.string (B t.e),.int .u8 t.tr.toNat,.int .u8 t.g.toNat] 29));have bd:=QQ ((aN.below Z).alloc (.cells #[.string (B t.a),.string (B t.b),.string (B t.c),.string (B t.d),.string (B t.e),.int .u8 t.tr.toNat,.int .u8 t.g.toNat] 29));have a8:=QQ (Bx.new ai #[.string (B t.a),.string (B t.b),.string (B t.c),.string (B t.d),.string (B t.e),.int .u8 t.tr.toNat,.int .u8 t.g.toNat] 29);clear Z aK aN)
   generalize (ai.alloc (.cells #[.string (B t.a),.string (B t.b),.string (B t.c),.string (B t.d),.string (B t.e),.int .u8 t.tr.toNat,.int .u8 t.g.toNat] 29))=bB at*;generalize ai.heap.size=Yy at*;have a5:=bd.pair;have bI:=B_two s (Zaa t);have a1:(B s).size+(B (Zaa t)).size<=100000000:=by omega
   go_wp2_with (go_at_call 8;refine MR (ad _) λbA Y=>?_;have aJ:=QQ (a9.below Y);have a7:=QQ (a8.below Y);clear Y a5;have bv:=aJ.x.seven;have bs:=a7.seven)
   go_ret
   exact⟨rfl,aJ.low⟩
