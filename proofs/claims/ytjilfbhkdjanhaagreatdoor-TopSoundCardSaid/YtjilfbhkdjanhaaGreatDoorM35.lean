/- Lemmas for a statement on the tops; conditions: as each says. -/
import Derived.Test.YtjilfbhkdjanhaaGreatDoorM34
set_option linter.all false
set_option maxRecDepth 100000
set_option maxHeartbeats 1000000
open Go.Proofs.Tryz
namespace Go.Proofs.YtjilfbhkdjanhaaGreatDoor
open Go Go.RowKit
def ZcZ(w:World)(e:Ending)(w':World):Prop:=(∃n a:Int,e=.returned (.tuple #[.string ⟨#[]⟩,.agg #[.int .i64 n,.int .i64 a]])/\1<=n)/\Below w.heap.size w w'
def Zqu(v:Nat)(id:List UInt8)(hid:id.length<=100000)(A:Option Addr)(c:Nat)(ps:List Pi)(w:World)(L:RdN 4 piL w w.heap.size A ps)(hn:ps.length<=100000)(C:∀p∈ps,p.text.length<=100000)(hG:Grd w)(I:1<=(ZaT v id ps).1):
 Calls prog 111 #[.int .i64 v,.string (B id),.slice A ps.length c] w (ZcZ w):=by
 generalize N:ZcZ w=P at*;have u:∀wx,Below w.heap.size w wx->Calls prog 175 #[.int .i64 v,.string (B id),.slice A ps.length c] wx λe w'=>e=.returned (.agg #[.int .i64 (ZaT v id ps).1,.int .i64 (ZaT v id ps).2])/\Below wx.heap.size wx w':=λwx hb=>by
  exact ZkX v id hid A c ps wx ((L.below hb).more hb.size) hn C (hG.below hb)
 have q:(1:Int)<=((ZaT v id ps).1:Nat):=by omega
 generalize ((ZaT v id ps).1:Int)=n at*;generalize ((ZaT v id ps).2:Int)=a at*;have J:=λw=>ZV n a (by omega) w;have Y:=QQ N;have Z:=QQ q;clear L hn C hG N I q;generalize Value.slice A ps.length c=vp at*;go_enter func111,ntmps111
 go_wp2_with (first
  |(go_at_call 175;refine(u _ ((Below.refl _ _).alloc NL _)).mono ?_;clear u;rintro e V ⟨rfl,y⟩;have W:=QQ ((Bx.new w _ _).below y);have O:=QQ (Ze y);clear y)
  |(go_at_call 8;refine MR (J _) λw2 j=>?_;have D:=QQ ((W.alloc _).below j);have U:=QQ ((Bx.new V #[.int .i64 n,.int .i64 a] 34).below j);have X:=QQ (O.trans ((Ze j).mono O.size));clear j;have r0:=D.cell 0;have r1:=D.cell 1;have f0:=D.free 0;have f1:=D.free 1;have c0:=U.cell 0;have c1:=U.cell 1))
 go_region
 all_goals
  go_wp2_with fail
  refine bodyPost_ret (Zap rfl _ _ w.heap.size _ _ _ _ _ rfl rfl (Zal D.out (.int .i64 n) (.int .i64 a)).drew underlying34 rfl (by kernel_rfl)) rfl ?_;rw[<-Y.out];exact⟨⟨n,a,rfl,Z.out⟩,ZbD ((X.setCell NL _).setCell NL _)⟩
def ZqO(v:Int)(id:List UInt8)(hid:id.length<=100000)(w:World):
 Calls prog 131 #[.int .i64 v,.string (B id)] w λe w'=>e=.returned (.string (B (Zn (Zg v.toNat id))))/\w=w':=by
 by_cases h0:0<=v
 ·have:=ZfF v.toNat id hid w
  rwa [Int.toNat_of_nonneg h0] at this
 ·rw[Zhu v.toNat id (by omega),show Zn []=[] from rfl];have u:(v==2)=false:=by rw[beq_eq_false_iff_ne];omega
  have q:(v==3)=false:=by rw[beq_eq_false_iff_ne];omega
  have j:(v==4)=false:=by rw[beq_eq_false_iff_ne];omega
  clear h0;go_enter func131,ntmps131
  go_wp2_with fail
  go_ret
  exact⟨rfl,rfl⟩
def ZkU(v:Int)(f:Fr)(hid:f.id.length<=100000)(w:World):
 Calls prog 77 #[.int .i64 v,.agg #[.string (B f.id),.int .u8 f.st.toNat,.int .u8 f.fm.toNat,.int .u8 f.grp.toNat,.string (B f.body),.int .i64 f.at_]] w λe w'=>e=.returned (.bool (!decide (Zg v.toNat f.id=[])))/\Below w.heap.size w w':=by
 by_cases q:0<=v
 ·have:=ZeR v.toNat f hid w
  rwa [Int.toNat_of_nonneg q] at this
 ·have j:=λw=>ZqO v f.id hid w;have u:=QQ ((Below.refl w.heap.size w).alloc NL (.cells #[.string (B f.id),.int .u8 f.st.toNat,.int .u8 f.fm.toNat,.int .u8 f.grp.toNat,.string (B f.body),.int .i64 f.at_] 114));have h0:Zg v.toNat f.id=[]:=Zhu v.toNat f.id (by omega);rw[h0,show B (Zn [])=⟨#[]⟩ from rfl] at j;rw[h0,decide_eq_true rfl];clear h0 q;go_enter func77,ntmps77
  go_wp2_with (go_at_call 131;refine(j _).mono ?_;rintro e y ⟨rfl,rfl⟩)
  go_ret
  exact⟨rfl,u.out⟩
def Zma:∀(ls:List Lt) (ps:List Pi) (i:Nat),(ckL ls ps i).1=0->ckL ls ps i=(0,0)
 |[],[],_,_=>rfl
 |[],_::_,_,h=>absurd h (by simp[ckL])
 |_::_,[],_,h=>absurd h (by simp[ckL])
 |l::ls,p::ps,i,h=>by
  unfold ckL at h⊢;split at h
  ·exact absurd h ‹_›
  ·rename_i j
   rw[if_neg j];exact Zma ls ps (i+1) h
def Zs0{v:Nat}{id:List UInt8}{ps:List Pi}(h:ZaT v id ps≠(0,0)):1<=(ZaT v id ps).1:=by
 rcases Nat.eq_zero_or_pos (ZaT v id ps).1 with h0|h0
 ·exact absurd (Zma _ _ _ h0) h
 ·exact h0
def b_nil{l:List UInt8}(h:l≠[]):(B l).toList.isEmpty=false:=ZeX h
def ZaI(v:Nat)(f:Fr)(ps:List Pi):Option Fr:=
 if Zg v f.id=[] then(if ps=[] then some f else none)
 else if ZaT v f.id ps≠(0,0) then none
 else if f.body≠[]\/ZQ v f.fm=true then none
 else some {f with body:=UInt8.ofNat (Zbe v)::prL (Zbe v) (Zg v f.id) ps}
def ZbC(w:World)(r:Option Fr)(e:Ending)(w':World):Prop:=Below w.heap.size w w'/\match r with
 |some f=>e=.returned (.tuple #[.agg #[.string (B f.id),.int .u8 f.st.toNat,.int .u8 f.fm.toNat,.int .u8 f.grp.toNat,.string (B f.body),.int .i64 f.at_],.int .i64 0])
 |none=>∃n:Int,e=.returned (.tuple #[.agg #[.string ⟨#[]⟩,.int .u8 0,.int .u8 0,.int .u8 0,.string ⟨#[]⟩,.int .i64 0],.int .i64 n])/\1<=n
def ZqE(v:Int)(f:Fr)(hid:f.id.length<=100000)(A:Option Addr)(n c:Nat)(w:World)(h0:Zg v.toNat f.id=[])(hn:n=0):
 Calls prog 93 #[.agg #[.string (B f.id),.int .u8 f.st.toNat,.int .u8 f.fm.toNat,.int .u8 f.grp.toNat,.string (B f.body),.int .i64 f.at_,.slice A n c],.int .i64 v] w (ZbC w (some f)):=by
 have C:=λw=>ZkU v f hid w;rw[h0,decide_eq_true rfl,Bool.not_true] at C;generalize hP:ZbC w _=P at*;have I:(λ(e:Ending) (w':World)=>Below w.heap.size w w'/\e=.returned (.tuple #[.agg #[.string (B f.id),.int .u8 f.st.toNat,.int .u8 f.fm.toNat,.int .u8 f.grp.toNat,.string (B f.body),.int .i64 f.at_],.int .i64 0]))=P:=hP;have HP:=QQ I;clear I;clear h0 hid hP;subst hn;have L:True:=trivial;generalize B f.id=id at*;generalize f.at_=at_ at*;generalize f.st.toNat=st at*;generalize f.fm.toNat=fm at*;generalize f.grp.toNat=grp at*;generalize B f.body=y at*;have bi:Bx ((w.alloc (.cells #[.string id,.int .u8 st,.int .u8 fm,.int .u8 grp,.string y,.int .i64 at_,.slice A 0 c] 137)).alloc (.cells #[.string ⟨#[]⟩,.int .u8 0,.int .u8 0,.int .u8 0,.string ⟨#[]⟩,.int .i64 0] 114)) w.heap.size #[.string id,.int .u8 st,.int .u8 fm,.int .u8 grp,.string y,.int .i64 at_,.slice A 0 c] 137:=(Bx.new w _ _).alloc _;have hm:((w.alloc (.cells #[.string id,.int .u8 st,.int .u8 fm,.int .u8 grp,.string y,.int .i64 at_,.slice A 0 c] 137)).alloc (.cells #[.string ⟨#[]⟩,.int .u8 0,.int .u8 0,.int .u8 0,.string ⟨#[]⟩,.int .i64 0] 114)).rangeAt w.heap.size 0 [.string id,.int .u8 st,.int .u8 fm,.int .u8 grp,.string y,.int .i64 at_]:=λj u q=>by
  rw[Nat.zero_add,bi.cell j];have hj:j<6:=(List.getElem?_eq_some_iff.1 q).1
  match j,hj,q with
  |0,_,q=>exact q
  |1,_,q=>exact q
  |2,_,q=>exact q
  |3,_,q=>exact q
  |4,_,q=>exact q
  |5,_,q=>exact q
 have Hm:=QQ hm;have J:=QQ (WhSt.new w #[.string id,.int .u8 st,.int .u8 fm,.int .u8 grp,.string y,.int .i64 at_,.slice A 0 c] #[.string id,.int .u8 st,.int .u8 fm,.int .u8 grp,.string y,.int .i64 at_]);clear hm bi L;go_enter func93,ntmps93
 go_upto_region 2 with(refine wpList_load_mid rfl 114 _ rfl w.heap.size 0 rfl [.string id,.int .u8 st,.int .u8 fm,.int .u8 grp,.string y,.int .i64 at_] _ Hm.out underlying114 rfl (by kernel_rfl) ?_)
 clear Hm;generalize (((w.alloc _).alloc _).alloc _)=W0 at*;generalize w.heap.size+1+1=F at*;have hF:=J.hF;obtain⟨Z,⟨c0,c1,c2,c3,c4,c5,f4⟩,⟨⟨X,W,r2,V,r4,U⟩,O⟩,Y⟩:=J.cells;go_wp2_with (go_at_call 77;refine(C _).mono ?_;clear C;rintro e w1 ⟨rfl,D⟩;have N:=QQ (J.below D);clear D J Z c0 c1 c2 c3 c4 c5 f4 X W r2 V r4 U O Y;obtain⟨Z,⟨c0,c1,c2,c3,c4,c5,f4⟩,⟨⟨X,W,r2,V,r4,U⟩,O⟩,Y⟩:=N.cells)
 have X1:=ZeY N.r (.string id) (.int .u8 st) (.int .u8 fm) (.int .u8 grp) (.string y) (.int .i64 at_);refine bodyPost_ret (ZdA rfl _ _ (w.heap.size+1) _ _ _ _ (.int .i64 0) rfl rfl X1 underlying114 rfl (by kernel_rfl)) rfl ?_;rw[<-HP.out];exact⟨Zft N.low (Nat.le_succ _) _ _ _ _ _ _,rfl⟩
def ZqF(v:Int)(f:Fr)(hid:f.id.length<=100000)(A:Option Addr)(n c:Nat)(w:World)(h0:Zg v.toNat f.id=[])(hn:0<n):
 Calls prog 93 #[.agg #[.string (B f.id),.int .u8 f.st.toNat,.int .u8 f.fm.toNat,.int .u8 f.grp.toNat,.string (B f.body),.int .i64 f.at_,.slice A n c],.int .i64 v] w (ZbC w none):=by
 have y:=λw=>ZkU v f hid w;rw[h0,decide_eq_true rfl,Bool.not_true] at y;generalize L:ZbC w _=P at*;unfold ZbC at L;have HP:=QQ L;clear h0 hid L;have ak:(0:Int)<n:=by omega
 have J:True:=trivial;generalize B f.id=id at*;generalize f.at_=at_ at*;generalize f.st.toNat=st at*;generalize f.fm.toNat=fm at*;generalize f.grp.toNat=grp at*;generalize B f.body=C at*;have bi:Bx ((w.alloc (.cells #[.string id,.int .u8 st,.int .u8 fm,.int .u8 grp,.string C,.int .i64 at_,.slice A n c] 137)).alloc (.cells #[.string ⟨#[]⟩,.int .u8 0,.int .u8 0,.int .u8 0,.string ⟨#[]⟩,.int .i64 0] 114)) w.heap.size #[.string id,.int .u8 st,.int .u8 fm,.int .u8 grp,.string C,.int .i64 at_,.slice A n c] 137:=(Bx.new w _ _).alloc _;have hm:((w.alloc (.cells #[.string id,.int .u8 st,.int .u8 fm,.int .u8 grp,.string C,.int .i64 at_,.slice A n c] 137)).alloc (.cells #[.string ⟨#[]⟩,.int .u8 0,.int .u8 0,.int .u8 0,.string ⟨#[]⟩,.int .i64 0] 114)).rangeAt w.heap.size 0 [.string id,.int .u8 st,.int .u8 fm,.int .u8 grp,.string C,.int .i64 at_]:=λj u q=>by
  rw[Nat.zero_add,bi.cell j];have hj:j<6:=(List.getElem?_eq_some_iff.1 q).1
  match j,hj,q with
  |0,_,q=>exact q
  |1,_,q=>exact q
  |2,_,q=>exact q
  |3,_,q=>exact q
  |4,_,q=>exact q
  |5,_,q=>exact q
 have Hm:=QQ hm;have I:=QQ (WhSt.new w #[.string id,.int .u8 st,.int .u8 fm,.int .u8 grp,.string C,.int .i64 at_,.slice A n c] #[.string id,.int .u8 st,.int .u8 fm,.int .u8 grp,.string C,.int .i64 at_]);clear hm bi J;go_enter func93,ntmps93
 go_upto_region 2 with(refine wpList_load_mid rfl 114 _ rfl w.heap.size 0 rfl [.string id,.int .u8 st,.int .u8 fm,.int .u8 grp,.string C,.int .i64 at_] _ Hm.out underlying114 rfl (by kernel_rfl) ?_)
 clear Hm;generalize (((w.alloc _).alloc _).alloc _)=W0 at*;generalize w.heap.size+1+1=F at*;have hF:=I.hF;obtain⟨Z,⟨c0,c1,c2,c3,c4,c5,f4⟩,⟨⟨X,W,r2,V,r4,U⟩,O⟩,Y⟩:=I.cells;go_wp2_with (go_at_call 77;refine(y _).mono ?_;clear y;rintro e w1 ⟨rfl,D⟩;have N:=QQ (I.below D);clear D I Z c0 c1 c2 c3 c4 c5 f4 X W r2 V r4 U O Y;obtain⟨Z,⟨c0,c1,c2,c3,c4,c5,f4⟩,⟨⟨X,W,r2,V,r4,U⟩,O⟩,Y⟩:=N.cells)
 have X1:=ZeY N.r (.string ⟨#[]⟩) (.int .u8 0) (.int .u8 0) (.int .u8 0) (.string ⟨#[]⟩) (.int .i64 0);refine bodyPost_ret (ZdA rfl _ _ (w.heap.size+1) _ _ _ _ (.int .i64 5) rfl rfl X1 underlying114 rfl (by kernel_rfl)) rfl ?_;rw[<-HP.out];exact⟨Zft N.low (Nat.le_succ _) _ _ _ _ _ _,5,rfl,by decide⟩
def ZqB(v:Nat)(f:Fr)(hid:f.id.length<=100000)(A:Option Addr)(c:Nat)(ps:List Pi)(w:World)(hr:RdN 4 piL w w.heap.size A ps)(hn:ps.length<=100000)(N:∀p∈ps,p.text.length<=100000)(hG:Grd w)(h0:Zg v f.id≠[])(O:1<=(ZaT v f.id ps).1):
 Calls prog 93 #[.agg #[.string (B f.id),.int .u8 f.st.toNat,.int .u8 f.fm.toNat,.int .u8 f.grp.toNat,.string (B f.body),.int .i64 f.at_,.slice A ps.length c],.int .i64 v] w (ZbC w none):=by
 have D:=λw=>ZeR v f hid w;rw[decide_eq_false h0,Bool.not_false] at D;have I:∀wx,Below w.heap.size w wx->Calls prog 111 #[.int .i64 v,.string (B f.id),.slice A ps.length c] wx (ZcZ wx):=λwx hb=>Zqu v f.id hid A c ps wx ((hr.below hb).more hb.size) hn N (hG.below hb) O;unfold ZcZ at I;have U:=λ(n a:Int) (hn:1<=n) wx=>ZV n a (by omega) wx;generalize hP:ZbC w _=P at*;unfold ZbC at hP;have HP:=QQ hP;clear h0 hid hP hr hn N hG O;generalize Value.slice A ps.length c=X at*;have ap:True:=trivial;generalize B f.id=id at*;generalize f.at_=at_ at*;generalize f.st.toNat=st at*;generalize f.fm.toNat=fm at*;generalize f.grp.toNat=grp at*;generalize B f.body=L at*;have bi:Bx ((w.alloc (.cells #[.string id,.int .u8 st,.int .u8 fm,.int .u8 grp,.string L,.int .i64 at_,X] 137)).alloc (.cells #[.string ⟨#[]⟩,.int .u8 0,.int .u8 0,.int .u8 0,.string ⟨#[]⟩,.int .i64 0] 114)) w.heap.size #[.string id,.int .u8 st,.int .u8 fm,.int .u8 grp,.string L,.int .i64 at_,X] 137:=(Bx.new w _ _).alloc _;have hm:((w.alloc (.cells #[.string id,.int .u8 st,.int .u8 fm,.int .u8 grp,.string L,.int .i64 at_,X] 137)).alloc (.cells #[.string ⟨#[]⟩,.int .u8 0,.int .u8 0,.int .u8 0,.string ⟨#[]⟩,.int .i64 0] 114)).rangeAt w.heap.size 0 [.string id,.int .u8 st,.int .u8 fm,.int .u8 grp,.string L,.int .i64 at_]:=λj u q=>by
  rw[Nat.zero_add,bi.cell j];have hj:j<6:=(List.getElem?_eq_some_iff.1 q).1
  match j,hj,q with
  |0,_,q=>exact q
  |1,_,q=>exact q
  |2,_,q=>exact q
  |3,_,q=>exact q
  |4,_,q=>exact q
  |5,_,q=>exact q
 have Hm:=QQ hm;have S0:=QQ (WhSt.new w #[.string id,.int .u8 st,.int .u8 fm,.int .u8 grp,.string L,.int .i64 at_,X] #[.string id,.int .u8 st,.int .u8 fm,.int .u8 grp,.string L,.int .i64 at_]);clear hm bi ap;go_enter func93,ntmps93
 go_upto_region 2 with(refine wpList_load_mid rfl 114 _ rfl w.heap.size 0 rfl [.string id,.int .u8 st,.int .u8 fm,.int .u8 grp,.string L,.int .i64 at_] _ Hm.out underlying114 rfl (by kernel_rfl) ?_)
 clear Hm;generalize (((w.alloc _).alloc _).alloc _)=W0 at*;generalize w.heap.size+1+1=F at*;have hF:=S0.hF;obtain⟨i6,⟨c0,c1,c2,c3,c4,c5,f4⟩,⟨⟨r0,r1,r2,r3,r4,Z⟩,Y⟩,l3⟩:=S0.cells;go_upto_region 8 with(first
  |(go_at_call 77;refine(D _).mono ?_;clear D;rintro e w1 ⟨rfl,W⟩;have S1:=QQ (S0.below W);clear W S0 i6 c0 c1 c2 c3 c4 c5 f4 r0 r1 r2 r3 r4 Z Y l3;obtain⟨i6,⟨c0,c1,c2,c3,c4,c5,f4⟩,⟨⟨r0,r1,r2,r3,r4,Z⟩,Y⟩,l3⟩:=S1.cells)
  |(go_at_call 111;refine(I _ S1.low).mono ?_;clear I;rintro e w2 ⟨⟨n,a,rfl,C⟩,V⟩;have S2:=QQ (S1.below V);have ax:=QQ C;have y:=λwx=>U n a C wx;clear C;clear V S1 i6 c0 c1 c2 c3 c4 c5 f4 r0 r1 r2 r3 r4 Z Y l3)
  |(go_at_call 8;refine(y _).mono ?_;clear U y;rintro e w3 ⟨rfl,J⟩;have S3:=QQ (((S2.below ((Below.refl _ _).alloc NL _))).below J);have aD:=S2.r.lt;have FB:=QQ ((Bx.new w2 #[.int .i64 n,.int .i64 a] 34).below J);clear J S2;obtain⟨i6,⟨c0,c1,c2,c3,c4,c5,f4⟩,⟨⟨r0,r1,r2,r3,r4,Z⟩,Y⟩,l3⟩:=S3.cells;have u0:=FB.cell 0))
 go_region
 all_goals
  go_wp2_with fail
  have X1:=ZeY S3.r (.string ⟨#[]⟩) (.int .u8 0) (.int .u8 0) (.int .u8 0) (.string ⟨#[]⟩) (.int .i64 0);refine bodyPost_ret (ZdA rfl _ _ (w.heap.size+1) _ _ _ _ (.int .i64 n) rfl rfl X1.drew underlying114 rfl (by kernel_rfl)) rfl ?_;rw[<-HP.out];exact⟨ZbD (Zft S3.low (Nat.le_succ _) _ _ _ _ _ _),n,rfl,ax.out⟩
def ZqC(v:Nat)(f:Fr)(hid:f.id.length<=100000)(A:Option Addr)(c:Nat)(ps:List Pi)(w:World)(hr:RdN 4 piL w w.heap.size A ps)(ap:∀p∈ps,p.text.length<=100000)(hG:Grd w)(h0:Zg v f.id≠[])(aw:ZaT v f.id ps=(0,0))(ax:f.body≠[]\/ZQ v f.fm=true):
 Calls prog 93 #[.agg #[.string (B f.id),.int .u8 f.st.toNat,.int .u8 f.fm.toNat,.int .u8 f.grp.toNat,.string (B f.body),.int .i64 f.at_,.slice A ps.length c],.int .i64 v] w (ZbC w none):=by
 have y:=λw=>ZeR v f hid w;rw[decide_eq_false h0,Bool.not_false] at y;have W:∀wx,Below w.heap.size w wx->Calls prog 111 #[.int .i64 v,.string (B f.id),.slice A ps.length c] wx (ZeS wx (UInt8.ofNat (Zbe v)::prL (Zbe v) (Zg v f.id) ps)):=λwx hb=>ZkY v f.id hid A c ps wx ((hr.below hb).more hb.size) ap (hG.below hb) h0 aw;unfold ZeS at W;have V:=λw=>Zdk (B f.id) f.st f.fm v w;rw[Int.toNat_natCast] at V;have ay:=λw=>ZG 0 0 rfl w;generalize UInt8.ofNat (Zbe v)::prL (Zbe v) (Zg v f.id) ps=aM at*;generalize Value.slice A ps.length c=vp at*;generalize hP:ZbC w _=P at*;unfold ZbC at hP;have HP:=QQ hP;have C:(f.body=[]/\ZQ v f.fm=true)\/(B f.body).toList.isEmpty=false:=by
  by_cases hb:f.body=[]
  ·exact .inl ⟨hb,ax.resolve_left (λh=>h hb)⟩
  ·exact .inr (b_nil hb)
 clear h0 hid hP hr ap hG aw ax;rcases C with⟨C,au⟩|C
 ·rw[au] at V;rw[C,show B []=⟨#[]⟩ from rfl] at y;have ak:B f.body=⟨#[]⟩:=by rw[C];rfl
  rw[ak];clear C ak au;have am:True:=trivial;generalize B f.id=id at*;generalize f.at_=at_ at*;generalize f.st.toNat=st at*;generalize f.fm.toNat=fm at*;generalize f.grp.toNat=grp at*;have bi:Bx ((w.alloc (.cells #[.string id,.int .u8 st,.int .u8 fm,.int .u8 grp,.string ⟨#[]⟩,.int .i64 at_,vp] 137)).alloc (.cells #[.string ⟨#[]⟩,.int .u8 0,.int .u8 0,.int .u8 0,.string ⟨#[]⟩,.int .i64 0] 114)) w.heap.size #[.string id,.int .u8 st,.int .u8 fm,.int .u8 grp,.string ⟨#[]⟩,.int .i64 at_,vp] 137:=(Bx.new w _ _).alloc _;have hm:((w.alloc (.cells #[.string id,.int .u8 st,.int .u8 fm,.int .u8 grp,.string ⟨#[]⟩,.int .i64 at_,vp] 137)).alloc (.cells #[.string ⟨#[]⟩,.int .u8 0,.int .u8 0,.int .u8 0,.string ⟨#[]⟩,.int .i64 0] 114)).rangeAt w.heap.size 0 [.string id,.int .u8 st,.int .u8 fm,.int .u8 grp,.string ⟨#[]⟩,.int .i64 at_]:=λj u q=>by
   rw[Nat.zero_add,bi.cell j];have hj:j<6:=(List.getElem?_eq_some_iff.1 q).1
   match j,hj,q with
   |0,_,q=>exact q
   |1,_,q=>exact q
   |2,_,q=>exact q
   |3,_,q=>exact q
   |4,_,q=>exact q
   |5,_,q=>exact q
  have Hm:=QQ hm;have S0:=QQ (WhSt.new w #[.string id,.int .u8 st,.int .u8 fm,.int .u8 grp,.string ⟨#[]⟩,.int .i64 at_,vp] #[.string id,.int .u8 st,.int .u8 fm,.int .u8 grp,.string ⟨#[]⟩,.int .i64 at_]);clear hm bi am;go_enter func93,ntmps93
  go_upto_region 2 with(refine wpList_load_mid rfl 114 _ rfl w.heap.size 0 rfl [.string id,.int .u8 st,.int .u8 fm,.int .u8 grp,.string ⟨#[]⟩,.int .i64 at_] _ Hm.out underlying114 rfl (by kernel_rfl) ?_)
  clear Hm;generalize (((w.alloc _).alloc _).alloc _)=W0 at*;generalize w.heap.size+1+1=F at*;have hF:=S0.hF;obtain⟨U,⟨c0,c1,c2,c3,c4,c5,f4⟩,⟨⟨N,L,r2,J,r4,I⟩,D⟩,O⟩:=S0.cells;go_upto_region 9 with(first
   |(go_at_call 77;refine(y _).mono ?_;clear y;rintro e w1 ⟨rfl,Z⟩;have S1:=QQ (S0.below Z);clear Z S0 U c0 c1 c2 c3 c4 c5 f4 N L r2 J r4 I D O;obtain⟨U,⟨c0,c1,c2,c3,c4,c5,f4⟩,⟨⟨N,L,r2,J,r4,I⟩,D⟩,O⟩:=S1.cells)
   |(go_at_call 111;refine(W _ S1.low).mono ?_;clear W;rintro e w2 ⟨rfl,Y⟩;have S2:=QQ (S1.below Y);clear Y S1 U c0 c1 c2 c3 c4 c5 f4 N L r2 J r4 I D O)
   |(go_at_call 8;refine MR (ay _) λw3 X=>?_;have S3:=QQ (((S2.below ((Below.refl _ _).alloc NL _))).below X);clear X S2;obtain⟨U,⟨c0,c1,c2,c3,c4,c5,f4⟩,⟨⟨N,L,r2,J,r4,I⟩,D⟩,O⟩:=S3.cells))
  go_wp2_with (go_at_call 78;refine(V _).mono ?_;clear V;rintro e w4 ⟨rfl,az⟩;have S4:=QQ (S3.below az);clear az S3 U c0 c1 c2 c3 c4 c5 f4 N L r2 J r4 I D O;obtain⟨U,⟨c0,c1,c2,c3,c4,c5,f4⟩,⟨⟨N,L,r2,J,r4,I⟩,D⟩,O⟩:=S4.cells)
  have X1:=ZeY S4.r (.string ⟨#[]⟩) (.int .u8 0) (.int .u8 0) (.int .u8 0) (.string ⟨#[]⟩) (.int .i64 0);refine bodyPost_ret (ZdA rfl _ _ (w.heap.size+1) _ _ _ _ (.int .i64 5) rfl rfl X1 underlying114 rfl (by kernel_rfl)) rfl ?_;rw[<-HP.out];exact⟨Zft S4.low (Nat.le_succ _) _ _ _ _ _ _,5,rfl,by decide⟩
 ·clear V;have am:True:=trivial;generalize B f.id=id at*;generalize f.at_=at_ at*;generalize f.st.toNat=st at*;generalize f.fm.toNat=fm at*;generalize f.grp.toNat=grp at*;generalize B f.body=bd at*;have bi:Bx ((w.alloc (.cells #[.string id,.int .u8 st,.int .u8 fm,.int .u8 grp,.string bd,.int .i64 at_,vp] 137)).alloc (.cells #[.string ⟨#[]⟩,.int .u8 0,.int .u8 0,.int .u8 0,.string ⟨#[]⟩,.int .i64 0] 114)) w.heap.size #[.string id,.int .u8 st,.int .u8 fm,.int .u8 grp,.string bd,.int .i64 at_,vp] 137:=(Bx.new w _ _).alloc _;have hm:((w.alloc (.cells #[.string id,.int .u8 st,.int .u8 fm,.int .u8 grp,.string bd,.int .i64 at_,vp] 137)).alloc (.cells #[.string ⟨#[]⟩,.int .u8 0,.int .u8 0,.int .u8 0,.string ⟨#[]⟩,.int .i64 0] 114)).rangeAt w.heap.size 0 [.string id,.int .u8 st,.int .u8 fm,.int .u8 grp,.string bd,.int .i64 at_]:=λj u q=>by
   rw[Nat.zero_add,bi.cell j];have hj:j<6:=(List.getElem?_eq_some_iff.1 q).1
   match j,hj,q with
   |0,_,q=>exact q
   |1,_,q=>exact q
   |2,_,q=>exact q
   |3,_,q=>exact q
   |4,_,q=>exact q
   |5,_,q=>exact q
  have Hm:=QQ hm;have S0:=QQ (WhSt.new w #[.string id,.int .u8 st,.int .u8 fm,.int .u8 grp,.string bd,.int .i64 at_,vp] #[.string id,.int .u8 st,.int .u8 fm,.int .u8 grp,.string bd,.int .i64 at_]);clear hm bi am;go_enter func93,ntmps93
  go_upto_region 2 with(refine wpList_load_mid rfl 114 _ rfl w.heap.size 0 rfl [.string id,.int .u8 st,.int .u8 fm,.int .u8 grp,.string bd,.int .i64 at_] _ Hm.out underlying114 rfl (by kernel_rfl) ?_)
  clear Hm;generalize (((w.alloc _).alloc _).alloc _)=W0 at*;generalize w.heap.size+1+1=F at*;have hF:=S0.hF;obtain⟨U,⟨c0,c1,c2,c3,c4,c5,f4⟩,⟨⟨N,L,r2,J,r4,I⟩,D⟩,O⟩:=S0.cells;go_upto_region 9 with(first
   |(go_at_call 77;refine(y _).mono ?_;clear y;rintro e w1 ⟨rfl,Z⟩;have S1:=QQ (S0.below Z);clear Z S0 U c0 c1 c2 c3 c4 c5 f4 N L r2 J r4 I D O;obtain⟨U,⟨c0,c1,c2,c3,c4,c5,f4⟩,⟨⟨N,L,r2,J,r4,I⟩,D⟩,O⟩:=S1.cells)
   |(go_at_call 111;refine(W _ S1.low).mono ?_;clear W;rintro e w2 ⟨rfl,Y⟩;have S2:=QQ (S1.below Y);clear Y S1 U c0 c1 c2 c3 c4 c5 f4 N L r2 J r4 I D O)
   |(go_at_call 8;refine MR (ay _) λw3 X=>?_;have S3:=QQ (((S2.below ((Below.refl _ _).alloc NL _))).below X);clear X S2;obtain⟨U,⟨c0,c1,c2,c3,c4,c5,f4⟩,⟨⟨N,L,r2,J,r4,I⟩,D⟩,O⟩:=S3.cells))
  go_wp2_with fail
  have X1:=ZeY S3.r (.string ⟨#[]⟩) (.int .u8 0) (.int .u8 0) (.int .u8 0) (.string ⟨#[]⟩) (.int .i64 0);refine bodyPost_ret (ZdA rfl _ _ (w.heap.size+1) _ _ _ _ (.int .i64 5) rfl rfl X1 underlying114 rfl (by kernel_rfl)) rfl ?_;rw[<-HP.out];exact⟨Zft S3.low (Nat.le_succ _) _ _ _ _ _ _,5,rfl,by decide⟩
def ZqA(v:Int)(f:Fr)(hid:f.id.length<=100000)(A:Option Addr)(c:Nat)(ps:List Pi)(w:World)(C:RdN 4 piL w w.heap.size A ps)(hn:ps.length<=100000)(j:∀p∈ps,p.text.length<=100000)(hG:Grd w):
 Calls prog 93 #[.agg #[.string (B f.id),.int .u8 f.st.toNat,.int .u8 f.fm.toNat,.int .u8 f.grp.toNat,.string (B f.body),.int .i64 f.at_,.slice A ps.length c],.int .i64 v] w (ZbC w (ZaI v.toNat f ps)):=by
 unfold ZaI;by_cases h0:Zg v.toNat f.id=[]
 ·rw[if_pos h0];by_cases u:ps=[]
  ·rw[if_pos u];exact ZqE v f hid A ps.length c w h0 (by rw[u];rfl)
  ·rw[if_neg u];exact ZqF v f hid A ps.length c w h0 (List.length_pos_iff.2 u)
 ·rw[if_neg h0];have N:0<=v:=by
   rcases Int.lt_or_le v 0 with h|h
   ·exact absurd (Zhu v.toNat f.id (by omega)) h0
   ·exact h
  obtain⟨k,rfl⟩:∃k:Nat,v=k:=⟨v.toNat,by omega⟩
  rw[Int.toNat_natCast] at h0⊢;by_cases y:ZaT k f.id ps≠(0,0)
  ·rw[if_pos y];exact ZqB k f hid A c ps w C hn j hG h0 (Zs0 y)
  ·rw[if_neg y];have q:ZaT k f.id ps=(0,0):=Classical.not_not.1 y;by_cases hb:f.body≠[]\/ZQ k f.fm=true
   ·rw[if_pos hb];exact ZqC k f hid A c ps w C j hG h0 q hb
   ·rw[if_neg hb];obtain⟨L,J⟩:=not_or.1 hb;refine(ZqD k f hid A c ps w C j hG h0 q (Classical.not_not.1 L) (by simpa using J)).mono ?_;rintro e w' ⟨I,D⟩;exact⟨D,I⟩
def Zs2{v:Nat}{rev fl:UInt8}{fs:List Fr}(h:ZaA v rev fl fs=(0,0)):Zb5 v rev fl=false/\(∀f∈fs,ZaR v fl f=false)/\fs.length<=4096:=by
 unfold ZaA at h;cases q:Zb5 v rev fl with
 |true=>rw[q,if_pos rfl] at h;cases h
 |false=>
  rw[q,if_neg (by decide)] at h;cases j:fs.findIdx? (ZaR v fl) with
  |some i=>rw[j] at h;cases h
  |none=>
   rw[j] at h;simp only at h;refine⟨rfl,λf u=>?_,?_⟩
   ·have:=List.findIdx?_eq_none_iff.1 j f u;simpa using this
   ·by_cases y:4096<fs.length
    ·rw[if_pos y] at h;cases h
    ·omega
def Zs1{v:Nat}{rev fl:UInt8}{fs:List Fr}(h:ZaA v rev fl fs≠(0,0)):1<=(ZaA v rev fl fs).1:=by
 unfold ZaA at h⊢;split
 ·exact Nat.le_of_ble_eq_true rfl
 ·split
  ·exact Nat.le_of_ble_eq_true rfl
  ·split
   ·exact Nat.le_of_ble_eq_true rfl
   ·rename_i u _ q j
    rw[if_neg u,q,if_neg j] at h;exact absurd rfl h
def ZsJ{v:Nat}{fl:UInt8}{f:Fr}(h:ZaR v fl f=false):okF v f=true:=by
 unfold ZaR at h;simp only[Bool.or_eq_false_iff,Bool.not_eq_false'] at h;exact h.1
def Zsb(v:Int)(rev fl:UInt8)(A:Option Addr)(c:Nat)(fs:List Fr)(B0:Nat)(w:World)(X:Zk frV B0 w (.slice A fs.length c) fs)(hn:fs.length<=100000)(hid:∀f∈fs,f.id.length<=1000000000)(C:ZaA v.toNat rev fl fs≠(0,0)):
 Calls prog 94 #[.agg #[.int .i64 v,.int .u8 rev.toNat,.int .u8 fl.toNat,.slice A fs.length c]] w (ZcZ w):=by
 generalize Y:ZcZ w=P at*;have y:Hid (CSt w ((w.alloc (.cells #[.int .i64 v,.int .u8 rev.toNat,.int .u8 fl.toNat,.slice A fs.length c] 41)).alloc (.cells #[.int .i64 0,.int .i64 0] 34)) v rev fl (.slice A fs.length c)):=QQ ⟨(Bx.new w _ _).alloc _,by have:=Bx.new (w.alloc (.cells #[.int .i64 v,.int .u8 rev.toNat,.int .u8 fl.toNat,.slice A fs.length c] 41)) #[.int .i64 0,.int .i64 0] 34;rw[World.size_alloc] at this;exact this,((Below.refl _ _).alloc NL _).alloc (by simp) _⟩;have q:∀wx,Below w.heap.size w wx->Calls prog 157 #[.agg #[.int .i64 v,.int .u8 rev.toNat,.int .u8 fl.toNat,.slice A fs.length c]] wx λe w'=>e=.returned (.agg #[.int .i64 (ZaA v.toNat rev fl fs).1,.int .i64 (ZaA v.toNat rev fl fs).2])/\Below wx.heap.size wx w':=
  λwx hb=>Zlt v rev fl A c fs B0 wx (X.below hb) hn hid
 have j:(1:Int)<=((ZaA v.toNat rev fl fs).1:Nat):=by have:=Zs1 C;omega
 generalize ((ZaA v.toNat rev fl fs).1:Int)=n at*;generalize ((ZaA v.toNat rev fl fs).2:Int)=a at*;have L:=λw=>ZV n a (by omega) w;have HP:=QQ Y;have HN:=QQ j;obtain⟨⟨c0,c1,c2,Z⟩,⟨U,O⟩,N,W,V⟩:=y.cells;clear X hn hid Y C j;go_enter func94,ntmps94
 go_wp2_with (first
  |(go_at_call 157;refine(q _ y.low).mono ?_;clear q;rintro e w1 ⟨rfl,D⟩;have J:=QQ (y.below D);clear D c0 c1 c2 Z U O N W V)
  |(go_at_call 8;refine MR (L _) λw2 u=>?_;have ae:=J.res.lt;have I:=QQ ((J.alloc _).below u);have C2:=QQ ((Bx.new w1 #[.int .i64 n,.int .i64 a] 34).below u);clear u;obtain⟨⟨c0,c1,c2,Z⟩,⟨U,O⟩,N,W,V⟩:=I.cells;have u0:=C2.cell 0;have u1:=C2.cell 1))
 go_region
 all_goals
  go_wp2_with fail
  have F:=I.fin (.int .i64 n) (.int .i64 a);refine bodyPost_ret (Zap rfl _ _ (w.heap.size+1) _ _ _ _ _ rfl rfl F.1.drew underlying34 rfl (by kernel_rfl)) rfl ?_;rw[<-HP.out];exact⟨⟨n,a,rfl,HN.out⟩,ZbD F.2⟩
def ZN(w:World)(r:Option (List UInt8))(e:Ending)(w':World):Prop:=Below w.heap.size w w'/\match r with
 |some s=>e=.returned (.tuple #[.string (B s),.agg #[.int .i64 0,.int .i64 0]])
 |none=>∃n a:Int,e=.returned (.tuple #[.string ⟨#[]⟩,.agg #[.int .i64 n,.int .i64 a]])/\1<=n
def ZN.bad{w:World}{e:Ending}{w':World}(h:ZcZ w e w'):ZN w none e w':=⟨h.2,h.1⟩
def prR(v:Int)(rev fl:UInt8)(fs:List Fr):Option (List UInt8):=if ZaA v.toNat rev fl fs≠(0,0) then none else some (Zd3 ⟨v.toNat,rev,fl,fs⟩)
def Zsa(v:Int)(rev fl:UInt8)(A:Option Addr)(c:Nat)(fs:List Fr)(B0:Nat)(w:World)(y:Zk frV B0 w (.slice A fs.length c) fs)(hn:fs.length<=100000)(hid:∀f∈fs,f.id.length<=1000000000)
 (J:v=2->∀f∈fs,(ZD 2 f).length<=16777215) (j:((fs.map (ZM v.toNat)).flatten).length<=130000000):
 Calls prog 94 #[.agg #[.int .i64 v,.int .u8 rev.toNat,.int .u8 fl.toNat,.slice A fs.length c]] w (ZN w (prR v rev fl fs)):=by
 unfold prR;by_cases u:ZaA v.toNat rev fl fs≠(0,0)
 ·rw[if_pos u];exact(Zsb v rev fl A c fs B0 w y hn hid u).mono λe w' h=>ZN.bad h
 ·rw[if_neg u];have q:=Classical.not_not.1 u;obtain⟨I,D,_⟩:=Zs2 q;exact(Zsc v rev fl A c fs B0 w y hn hid I q (λf C=>ZsJ (D f C)) J j).mono λe w' h=>⟨h.2,h.1⟩
def Zul(l:List UInt8):Lib.hasPrefix l [73,68,51]=decide (l.take 3=Zu):=by
 match l with
 |[]=>rfl
 |[x]=>exact(Bool.and_false _).trans (decide_eq_false (by unfold Zu;intro h;cases h)).symm
 |[x,y]=>exact((congrArg (73==x&& ·) (Bool.and_false (68==y))).trans (Bool.and_false _)).trans (decide_eq_false (by unfold Zu;intro h;cases h)).symm
 |x::y::z::r=>
  show((73:UInt8)==x&&((68:UInt8)==y&&((51:UInt8)==z&&true)))=decide ([x,y,z]=[73,68,51])
  rw[Bool.eq_iff_iff,decide_eq_true_iff,Bool.and_true,Bool.and_eq_true,Bool.and_eq_true,beq_iff_eq,beq_iff_eq,beq_iff_eq,List.cons.injEq,List.cons.injEq,List.cons.injEq];exact⟨λ⟨a,b,c⟩=>⟨a.symm,b.symm,c.symm,rfl⟩,λ⟨a,b,c,_⟩=>⟨a.symm,b.symm,c.symm⟩⟩
structure PzSt (w wx:World)(T:Array Value):Prop where
 t:Bx wx w.heap.size T 72
 f:Bx wx (w.heap.size+1) #[.int .i64 0,.int .i64 0] 34
 low:Below w.heap.size w wx
def PzSt.new(w:World)(T:Array Value):PzSt w ((w.alloc (.cells T 72)).alloc (.cells #[.int .i64 0,.int .i64 0] 34)) T:=
 ⟨(Bx.new w _ _).alloc _,by have:=Bx.new (w.alloc (.cells T 72)) #[.int .i64 0,.int .i64 0] 34;rw[World.size_alloc] at this;exact this,((Below.refl _ _).alloc NL _).alloc (by simp) _⟩
def PzSt.cells{w wx:World}{T:Array Value}{C y u q j:Value}(h:PzSt w wx T)(N:T[1]?=some C)(L:T[2]?=some y)(J:T[3]?=some u)(I:T[4]?=some q)(D:T[5]?=some j):
 (wx.cell? ⟨w.heap.size,1,none⟩=some C/\wx.cell? ⟨w.heap.size,2,none⟩=some y/\wx.cell? ⟨w.heap.size,3,none⟩=some u/\wx.cell? ⟨w.heap.size,4,none⟩=some q/\wx.cell? ⟨w.heap.size,5,none⟩=some j)/\
 (wx.cell? ⟨w.heap.size+1,0,none⟩=some (.int .i64 0)/\wx.cell? ⟨w.heap.size+1,1,none⟩=some (.int .i64 0)/\wx.frozen? ⟨w.heap.size+1,0,none⟩=false/\wx.frozen? ⟨w.heap.size+1,1,none⟩=false)/\w.heap.size+1<wx.heap.size:=
 ⟨⟨by rw[h.t.cell 1];exact N,by rw[h.t.cell 2];exact L,by rw[h.t.cell 3];exact J,by rw[h.t.cell 4];exact I,by rw[h.t.cell 5];exact D⟩,⟨h.f.cell 0,h.f.cell 1,h.f.free 0,h.f.free 1⟩,h.f.lt⟩
def Zd4(w:World)(T:Array Value)(x y:Value):Bx ((w.alloc (.cells T 72)).alloc (.cells #[x,y] 34)) (w.heap.size+1) #[x,y] 34/\Below w.heap.size w ((w.alloc (.cells T 72)).alloc (.cells #[x,y] 34)):=
 ⟨by have:=Bx.new (w.alloc (.cells T 72)) #[x,y] 34;rw[World.size_alloc] at this;exact this,((Below.refl _ _).alloc NL _).alloc (by simp) _⟩
def Zrv(rev fl:UInt8)(A:Option Addr)(n c:Nat)(j:List UInt8)(w:World)(T:Array Value)
 (D:T[1]?=some (.int .i64 0)) (C:T[2]?=some (.int .u8 rev.toNat)) (y:T[3]?=some (.int .u8 fl.toNat)) (u:T[4]?=some (.slice A n c)) (q:T[5]?=some (.string (B j))) (hn:0<n):
 Calls prog 45 #[.agg T] w (ZN w none):=by
 have I:(0:Int)<n:=by omega
 have J:=QQ (PzSt.new w T);obtain⟨⟨Y,c2,X,W,V⟩,⟨O,N,r2,L⟩,U⟩:=J.cells D C y u q;clear D C y u q;go_enter func45,ntmps45
 go_wp2_with fail
 refine bodyPost_ret (Zap rfl _ _ (w.heap.size+1) _ _ _ _ _ rfl rfl (Zd4 w T (.int .i64 5) (.int .i64 0)).1 underlying34 rfl (by kernel_rfl)) rfl ⟨(Zd4 w T (.int .i64 5) (.int .i64 0)).2,5,0,rfl,by decide⟩
def Zru(rev fl:UInt8)(A:Option Addr)(c:Nat)(j:List UInt8)(w:World)(T:Array Value)
 (I:T[1]?=some (.int .i64 0)) (y:T[2]?=some (.int .u8 rev.toNat)) (u:T[3]?=some (.int .u8 fl.toNat)) (D:T[4]?=some (.slice A 0 c)) (C:T[5]?=some (.string (B j))) (hn:rev≠0\/fl≠0):
 Calls prog 45 #[.agg T] w (ZN w none):=by
 obtain⟨r,f,L,J,q⟩:∃r f:Nat,rev.toNat=r/\fl.toNat=f/\(r≠0\/f≠0):=⟨_,_,rfl,rfl,hn.imp (λh e=>h (UInt8.toNat_inj.1 e)) (λh e=>h (UInt8.toNat_inj.1 e))⟩
 rw[L] at y;rw[J] at u;have O:=QQ q;clear L J hn q;have N:=QQ (PzSt.new w T);obtain⟨⟨c1,c2,c3,Z,Y⟩,⟨W,V,r2,U⟩,X⟩:=N.cells I y u D C;clear I y u D C;go_enter func45,ntmps45
 go_wp2_with fail
 all_goals first
  |exact absurd O.out (by omega)
  |refine bodyPost_ret (Zap rfl _ _ (w.heap.size+1) _ _ _ _ _ rfl rfl (Zd4 w T (.int .i64 5) (.int .i64 0)).1 underlying34 rfl (by kernel_rfl)) rfl ⟨(Zd4 w T (.int .i64 5) (.int .i64 0)).2,5,0,rfl,by decide⟩
def Zrx(A:Option Addr)(c:Nat)(j:List UInt8)(hs:j.length<=1000000000)(w:World)(T:Array Value)
 (L:T[1]?=some (.int .i64 0)) (J:T[2]?=some (.int .u8 (0:UInt8).toNat)) (I:T[3]?=some (.int .u8 (0:UInt8).toNat)) (D:T[4]?=some (.slice A 0 c)) (C:T[5]?=some (.string (B j))):
 Calls prog 45 #[.agg T] w (ZN w (if j.take 3=Zu then none else some j)):=by
 have O:=QQ (PzSt.new w T);obtain⟨⟨c1,c2,c3,Z,Y⟩,⟨W,V,r2,U⟩,X⟩:=O.cells L J I D C;clear L J I D C;have q:∀wx,Calls prog 36 #[.string (B j),.string ⟨#[73,68,51]⟩] wx λe w'=>e=.returned (.bool (decide (j.take 3=Zu)))/\wx=w':=by
  intro wx;have u:=Zul j;exact(strings_HasPrefix (B j) _ wx).mono λe w' h=>⟨by rw[h.1,Z9,<-u],h.2.symm⟩
 have y:=Zj j;by_cases u:j.take 3=Zu
 ·rw[decide_eq_true u] at q;rw[if_pos u];clear u;go_enter func45,ntmps45
  go_wp2_with (go_at_call 36;refine(q _).mono ?_;clear q;rintro e N ⟨rfl,rfl⟩)
  refine bodyPost_ret (Zap rfl _ _ (w.heap.size+1) _ _ _ _ _ rfl rfl (Zd4 w T (.int .i64 5) (.int .i64 0)).1 underlying34 rfl (by kernel_rfl)) rfl ⟨(Zd4 w T (.int .i64 5) (.int .i64 0)).2,5,0,rfl,by decide⟩
 ·rw[decide_eq_false u] at q;rw[if_neg u];clear u;go_enter func45,ntmps45
  go_wp2_with (go_at_call 36;refine(q _).mono ?_;clear q;rintro e N ⟨rfl,rfl⟩)
  refine bodyPost_ret (Zap rfl _ _ (w.heap.size+1) _ _ _ _ _ rfl rfl (Zd4 w T (.int .i64 0) (.int .i64 0)).1 underlying34 rfl (by kernel_rfl)) rfl ⟨(Zd4 w T (.int .i64 0) (.int .i64 0)).2,rfl⟩
def Za8(v:Nat)(j:List It):List Fr:=j.map λx=>(ZaI v x.f x.ps).getD x.f
def ZaG(v:Int)(rev fl:UInt8)(q:List It)(j:List UInt8):Option (List UInt8):=
 if v=0 then(if q≠[]\/rev≠0\/fl≠0\/j.take 3=Zu then none else some j)
 else if q.all (λx=>(ZaI v.toNat x.f x.ps).isSome)=false then none
 else(prR v rev fl (Za8 v.toNat q)).map (· ++j)
def ZpB{v:Nat}{f j:Fr}{ps:List Pi}(h:ZaI v f ps=some j):j.id=f.id:=by
 unfold ZaI at h
 (repeat' split at h)<;>first|(cases h;done)|(injection h with h;rw[<-h])
def Zt7{v:Nat}{j:List It}{n:Nat}(h:∀x∈j,x.f.id.length<=n):∀f∈Za8 v j,f.id.length<=n:=by
 intro f y;obtain⟨x,q,rfl⟩:=List.mem_map.1 y;cases u:ZaI v x.f x.ps with
 |none=>exact h x q
 |some C=>
  show C.id.length<=n
  rw[ZpB u];exact h x q
def Zt6{v:Nat}{j:List It}{k:Nat}{x:It}{f:Fr}(u:j[k]?=some x)(q:ZaI v x.f x.ps=some f):(Za8 v j)[k]?=some f:=by
 unfold Za8;rw[List.getElem?_map,u,Option.map_some,q];rfl
def RdN.it7{w:World}{B0:Nat}{A:Option Addr}{l:List (It×Value)}(h:RdN 7 itV w B0 A l){k:Nat}{x:It×Value}(L:l[k]?=some x):
 ∃j,A=some j/\j.block<B0/\w.cell? (j.add (k*7))=some (.string (B x.1.f.id))/\w.cell? ⟨(j.add (k*7)).block,(j.add (k*7)).off+1,none⟩=some (.int .u8 x.1.f.st.toNat)/\w.cell? ⟨(j.add (k*7)).block,(j.add (k*7)).off+2,none⟩=some (.int .u8 x.1.f.fm.toNat)/\
  w.cell? ⟨(j.add (k*7)).block,(j.add (k*7)).off+3,none⟩=some (.int .u8 x.1.f.grp.toNat)/\w.cell? ⟨(j.add (k*7)).block,(j.add (k*7)).off+4,none⟩=some (.string (B x.1.f.body))/\w.cell? ⟨(j.add (k*7)).block,(j.add (k*7)).off+5,none⟩=some (.int .i64 x.1.f.at_)/\
  w.cell? ⟨(j.add (k*7)).block,(j.add (k*7)).off+6,none⟩=some x.2:=by
 obtain⟨j,N,hb,q⟩:=h.at_ Zjh L;have g0:=q 0 _ (by omega) rfl;have J:=q 1 _ (by omega) rfl;have I:=q 2 _ (by omega) rfl;have D:=q 3 _ (by omega) rfl;have C:=q 4 _ (by omega) rfl;have y:=q 5 _ (by omega) rfl;have u:=q 6 _ (by omega) rfl;rw[Nat.add_zero] at g0;rw[Zg0 _ _ _ (by omega)] at J I D C y u;exact⟨j,N,hb,g0,J,I,D,C,y,u⟩
def ZlA(w:World)(H:Nat)(T:Array Value)(v:Int)(rev fl:UInt8)(fs:List Fr)(j:Nat->Prop)(i:Value)(wr:World):Prop:=
 ∃(k:Nat) (vl:Value),k<=fs.length/\i=.int .i64 k/\PtSt w wr H T #[.int .i64 v,.int .u8 rev.toNat,.int .u8 fl.toNat,vl]/\
  Hid (wr.ownsRow (H+1) 114 6 vl (fs.take k).length ((fs.take k).flatMap frV))/\Hid ((fs.take k)=[]->vl=.slice none 0 0)/\Hid (j k)
def ZvV{w W u:World}{H:Nat}{T:Array Value}{v:Int}{rev fl:UInt8}{fs:List Fr}{j:Nat->Prop}{k:Nat}{vl q:Value}{f:Fr}(y:fs[k]?=some f)(hs:PtSt w W H T #[.int .i64 v,.int .u8 rev.toNat,.int .u8 fl.toNat,vl])
 (C:u.ownsRow (H+1) 114 6 q (fs.take k++[f]).length ((fs.take k++[f]).flatMap frV)) (hb:Below (H+1) W u) (I:j (k+1)):
 ZlA w H T v rev fl fs j (.int .i64 ((k+1:Nat):Int)) (u.setCell ⟨H,3,none⟩ q):=by
 have D:k<fs.length:=(List.getElem?_eq_some_iff.1 y).1;have e:fs.take k++[f]=fs.take (k+1):=by rw[List.take_add_one,y];rfl
 rw[e] at C;refine⟨k+1,q,by omega,rfl,(hs.low3 hb).put 3 q,QQ (ZdX C ((But.refl H _ _).setCell (p:=⟨H,3,none⟩) (.inr rfl) q) (Nat.lt_succ_self _)),QQ λh=>?_,QQ I⟩;rw[<-e] at h;exact absurd h (by simp)
def Zff(v:Nat)(xs:List (It×Value))(k:Nat):Prop:=∀(j:Nat) (x:It×Value),j<k->xs[j]?=some x->(ZaI v x.1.f x.1.ps).isSome=true
def Zue{v:Nat}{xs:List (It×Value)}(h:Zff v xs xs.length):(xs.map (·.1)).all (λx=>(ZaI v x.f x.ps).isSome)=true:=by
 rw[List.all_eq_true];intro y u;obtain⟨x,C,rfl⟩:=List.mem_map.1 u;obtain⟨j,q⟩:=List.getElem?_of_mem C;exact h j x (List.getElem?_eq_some_iff.1 q).1 q
def Zuf{v:Nat}{xs:List (It×Value)}{k:Nat}{x:It×Value}(q:xs[k]?=some x)(j:ZaI v x.1.f x.1.ps=none):(xs.map (·.1)).all (λx=>(ZaI v x.f x.ps).isSome)=false:=by
 rw[List.all_eq_false];refine⟨x.1,List.mem_map.2 ⟨x,List.mem_of_getElem? q,rfl⟩,?_⟩;rw[j];decide
def Zug{v:Nat}{xs:List (It×Value)}{k:Nat}{x:It×Value}{f:Fr}(h:Zff v xs k)(D:xs[k]?=some x)(C:ZaI v x.1.f x.1.ps=some f):Zff v xs (k+1):=by
 intro j y I q;rcases Nat.lt_succ_iff_lt_or_eq.1 I with u|u
 ·exact h j y u q
 ·subst u;rw[D] at q;injection q with q
  rw[<-q,C];rfl
def Zrw(v:Int)(hv:v≠0)(rev fl:UInt8)(xs:List (It×Value))(A:Option Addr)(c:Nat)(q:List UInt8)(w:World)(T:Array Value)
 (h1:T[1]?=some (.int .i64 v)) (h2:T[2]?=some (.int .u8 rev.toNat)) (h3:T[3]?=some (.int .u8 fl.toNat)) (h4:T[4]?=some (.slice A xs.length c)) (h5:T[5]?=some (.string (B q)))
 (hr:RdN 7 itV w w.heap.size A xs) (aI:∀x∈xs,∃A c,x.2=.slice A x.1.ps.length c/\RdN 4 piL w w.heap.size A x.1.ps) (hn:xs.length<=100000)
 (aj:∀x∈xs,x.1.f.id.length<=100000/\x.1.ps.length<=100000/\∀p∈x.1.ps,p.text.length<=100000) (hG:Grd w)
 (h9:v=2->∀f∈Za8 v.toNat (xs.map (·.1)),(ZD 2 f).length<=16777215) (ao:(((Za8 v.toNat (xs.map (·.1))).map (ZM v.toNat)).flatten).length<=130000000) (bR:q.length<=1000000000) (aK:(Zd3 ⟨v.toNat,rev,fl,Za8 v.toNat (xs.map (·.1))⟩).length<=1000000000):
 Calls prog 45 #[.agg T] w (ZN w (ZaG v rev fl (xs.map (·.1)) q)):=by
 have bP:(v==0)=false:=by rw[beq_eq_false_iff_ne];exact hv
 have hid:∀f∈Za8 v.toNat (xs.map (·.1)),f.id.length<=100000:=Zt7 λy hy=>by
  obtain⟨x,hx,rfl⟩:=List.mem_map.1 hy;exact(aj x hx).1
 have aS:∀(k:Nat) (x:It×Value) (f:Fr),xs[k]?=some x->ZaI v.toNat x.1.f x.1.ps=some f->(Za8 v.toNat (xs.map (·.1)))[k]?=some f:=λk x f hk hw=>Zt6 (x:=x.1) (by rw[List.getElem?_map,hk];rfl) hw;have aO:(Za8 v.toNat (xs.map (·.1))).length=xs.length:=by unfold Za8;rw[List.length_map,List.length_map]
 have aq:Zff v.toNat xs xs.length->ZaG v rev fl (xs.map (·.1)) q=(prR v rev fl (Za8 v.toNat (xs.map (·.1)))).map (· ++q):=λh=>by
  unfold ZaG;rw[if_neg hv,Zue h,if_neg (by decide)]
 have af:∀(k:Nat) (x:It×Value),xs[k]?=some x->ZaI v.toNat x.1.f x.1.ps=none->ZaG v rev fl (xs.map (·.1)) q=none:=λk x hk hw=>by
  unfold ZaG;rw[if_neg hv,Zuf hk hw,if_pos rfl]
 have ae:Zff v.toNat xs xs.length->∀(e:Ending) (w':World),ZN w ((prR v rev fl (Za8 v.toNat (xs.map (·.1)))).map (· ++q)) e w'->ZN w (ZaG v rev fl (xs.map (·.1)) q) e w':=λh e w' hp=>by rw[aq h];exact hp
 have O:∀(k:Nat) (x:It×Value),xs[k]?=some x->ZaI v.toNat x.1.f x.1.ps=none->∀(e:Ending) (w':World),ZN w none e w'->ZN w (ZaG v rev fl (xs.map (·.1)) q) e w':=λk x hk hw e w' hp=>by rw[af k x hk hw];exact hp
 clear aq af;generalize ZN w (ZaG v rev fl (xs.map (·.1)) q)=P at*;generalize Za8 v.toNat (xs.map (·.1))=fs at*;have u:∀wx A c B0,Zk frV B0 wx (.slice A fs.length c) fs->Calls prog 94 #[.agg #[.int .i64 v,.int .u8 rev.toNat,.int .u8 fl.toNat,.slice A fs.length c]] wx (ZN wx (prR v rev fl fs)):=
  λwx A c B0 h=>Zsa v rev fl A c fs B0 wx h (by omega) (λf hf=>Nat.le_trans (hid f hf) (by decide)) h9 ao
 have ap:∀s,prR v rev fl fs=some s->s.length<=1000000000:=λs h=>by
  unfold prR at h;split at h
  ·cases h
  ·injection h with h;rw[<-h];exact aK
 have C:∀(k:Nat) (x:It×Value),xs[k]?=some x->∃A5 n5 I,x.2=.slice A5 n5 I/\∀wx,Below w.heap.size w wx->Calls prog 93 #[.agg #[.string (B x.1.f.id),.int .u8 x.1.f.st.toNat,.int .u8 x.1.f.fm.toNat,.int .u8 x.1.f.grp.toNat,.string (B x.1.f.body),.int .i64 x.1.f.at_,.slice A5 n5 I],.int .i64 v] wx (ZbC wx (ZaI v.toNat x.1.f x.1.ps)):=λk x hk=>by
  obtain⟨A5,I,hs,hp⟩:=aI x (List.mem_of_getElem? hk);obtain⟨q1,q2,q3⟩:=aj x (List.mem_of_getElem? hk);exact⟨A5,_,I,hs,λwx hb=>ZqA v x.1.f q1 A5 I x.1.ps wx ((hp.below hb).more hb.size) q2 q3 (hG.below hb)⟩
 have bf:=λw=>ZG 0 0 rfl w;have aP:=λ(n a:Int) (hn:1<=n) wx=>ZV n a (by omega) wx;have aX:=QQ hr;have HW:=QQ C;have bn:=QQ u;have bs:=QQ aS;have bp:=QQ ae;have aZ:=QQ O;have bo:=QQ ap;have br:=QQ aP;have bx:Bx ((w.alloc (.cells T 72)).alloc (.cells #[.int .i64 0,.int .i64 0] 34)) w.heap.size T 72:=(Bx.new w _ _).alloc _;have N:=bx.cell 1;have c2:=bx.cell 2;have L:=bx.cell 3;have J:=bx.cell 4;rw[h1] at N;rw[h2] at c2;rw[h3] at L;rw[h4] at J;have e1:=QQ h1;have e2:=QQ h2;have e3:=QQ h3;have e4:=QQ h4;have e5:=QQ h5;have aT:=QQ (PtSt.new w T #[.int .i64 v,.int .u8 rev.toNat,.int .u8 fl.toNat,.slice none 0 0]);clear hr aI C u hid h9 ao aK h1 h2 h3 h4 h5 bx aS ae O ap aP hG aj;go_enter func45,ntmps45
 go_upto_region 7 with fail
 clear N c2 L J;generalize (((w.alloc _).alloc _).alloc _)=W0 at*;generalize w.heap.size+1+1=H at*;obtain⟨⟨N,c2,L,J,I⟩,⟨d0,d1,d2,d3,g3⟩,⟨Z,Y,r2,X⟩,l1⟩:=aT.cells e1.out e2.out e3.out e4.out e5.out;go_wp2_with fail
 go_loopw [42] (λi wr=>ZlA w H T v rev fl fs (Zff v.toNat xs) i wr) (λi _=>fs.length - (intOf i).toNat)
 case atStart=>exact⟨0,.slice none 0 0,Nat.zero_le _,rfl,aT.out,QQ ⟨rfl,.inl ⟨rfl,rfl⟩⟩,QQ λ_=>rfl,QQ λj x hj=>absurd hj (Nat.not_lt_zero j)⟩
 case round=>
  obtain⟨k,vl,hk,rfl,aH,OW,NL,GD⟩:=hrel;obtain⟨A9,n9,c9,a9⟩:=Zfo OW.out;have aM:=QQ (ZaZ OW.out).1;have bQ:(fs.take k).length<=100000:=by simp;omega
  have SR:=QQ aH;subst a9;clear aH N c2 L J I d0 d1 d2 d3 g3 Z Y r2 X l1;obtain⟨⟨N,c2,L,J,I⟩,⟨d0,d1,d2,d3,g3⟩,⟨Z,Y,r2,X⟩,l1⟩:=SR.cells e1.out e2.out e3.out e4.out e5.out;by_cases bU:k<fs.length
  ·obtain⟨x,hx⟩:∃x,xs[k]?=some x:=⟨_,List.getElem?_eq_getElem (by omega)⟩
   obtain⟨ad,rfl,bA,y0,y1,y2,y3,y4,y5,y6⟩:=((aX.below SR.low).more SR.low.size).it7 hx;obtain⟨A5,n5,b0,aJ,C⟩:=HW.out k x hx;have bV:k<xs.length:=by omega
   have Hx:=QQ hx;rw[aJ] at y6;clear hx aJ;rcases hwx:ZaI v.toNat x.1.f x.1.ps with _|f
   ·have HB:=QQ (aZ.out k x Hx.out hwx);rw[hwx] at C;unfold ZbC at C;clear hwx;generalize x.1.f.id=id at*;generalize x.1.f.body=body at*;go_upto_region 12 with(go_at_call 93;refine(C _ (SR.alloc _).low).mono ?_;clear C;rintro e w3 ⟨W,n,rfl,U⟩;have S3:=QQ ((SR.alloc _).below W);have bT:(n==0)=false:=(by rw[beq_eq_false_iff_ne];omega);have bS:(n !=0)=true:=(by simp;omega);have aC:=QQ U;clear U W N c2 L J I d0 d1 d2 d3 g3 Z Y r2 X l1 y0 y1 y2 y3 y4 y5 y6)
    have S4:=QQ (S3.alloc (.cells #[.string ⟨#[]⟩,.int .u8 0,.int .u8 0,.int .u8 0,.string ⟨#[]⟩,.int .i64 0] 114));clear S3;generalize (w3.alloc (.cells #[.string ⟨#[]⟩,.int .u8 0,.int .u8 0,.int .u8 0,.string ⟨#[]⟩,.int .i64 0] 114))=w4 at*;obtain⟨⟨N,c2,L,J,I⟩,⟨d0,d1,d2,d3,g3⟩,⟨Z,Y,r2,X⟩,l1⟩:=S4.cells e1.out e2.out e3.out e4.out e5.out;go_wp2_with fail
    refine bodyPost_ret (Zap rfl _ _ (w.heap.size+1) _ _ _ _ (.string ⟨#[]⟩) rfl rfl (Zal S4.f (.int .i64 n) (.int .i64 k)) underlying34 rfl (by kernel_rfl)) rfl (HB.out _ _ ⟨?_,n,k,rfl,aC.out⟩);exact(S4.low.setCell (Nat.le_succ _) _).setCell (Nat.le_succ _) _
   ·have Hf:=QQ (bs.out k x f Hx.out hwx);have bq:=QQ (Zug GD.out Hx.out hwx);rw[hwx] at C;unfold ZbC at C;clear hwx;generalize x.1.f.id=id at*;generalize x.1.f.body=body at*;go_upto_region 13 with(go_at_call 93;refine(C _ (SR.alloc _).low).mono ?_;clear C;rintro e w3 ⟨W,rfl⟩;have S3:=QQ ((SR.alloc _).below W);have O3:=QQ (ZB (OW.alloc _) W);clear W N c2 L J I d0 d1 d2 d3 g3 Z Y r2 X l1 y0 y1 y2 y3 y4 y5 y6)
    have fb:=Bx.new w3 #[.string (B f.id),.int .u8 f.st.toNat,.int .u8 f.fm.toNat,.int .u8 f.grp.toNat,.string (B f.body),.int .i64 f.at_] 114;have S4:=QQ (S3.alloc (.cells #[.string (B f.id),.int .u8 f.st.toNat,.int .u8 f.fm.toNat,.int .u8 f.grp.toNat,.string (B f.body),.int .i64 f.at_] 114));have O4:=QQ (O3.alloc (.cells #[.string (B f.id),.int .u8 f.st.toNat,.int .u8 f.fm.toNat,.int .u8 f.grp.toNat,.string (B f.body),.int .i64 f.at_] 114));clear S3 O3;generalize (w3.alloc (.cells #[.string (B f.id),.int .u8 f.st.toNat,.int .u8 f.fm.toNat,.int .u8 f.grp.toNat,.string (B f.body),.int .i64 f.at_] 114))=w4 at*;generalize w3.heap.size=G at*;obtain⟨⟨y0,y1,y2,y3,y4,y5⟩,_,_⟩:=Zj6 fb;obtain⟨⟨N,c2,L,J,I⟩,⟨d0,d1,d2,d3,g3⟩,⟨Z,Y,r2,X⟩,l1⟩:=S4.cells e1.out e2.out e3.out e4.out e5.out;go_wp2_with (at_builtin;refine ZlP rfl _ _ rfl (H+1) (.slice A9 n9 c9) (fs.take k) rfl w4 f O4.out (by omega) (by omega) rfl ?_;intro v6 w6 aY D;obtain⟨A6,n6,c6,ba⟩:=Zfo aY.out;subst ba;have S6:=QQ (S4.low3 D);have b6:=S6.h.cell 3;have f6:=S6.h.free 3)
    have NX:=QQ (ZvV Hf.out S4.out aY.out D bq.out);clear D b6 f6;go_roundw
    case rel=>exact NX.out
    case measure=>simp[intOf];omega
  ·have be:k=fs.length:=by omega
   subst be;have HB:=QQ (bp.out (by have:=GD.out;rwa [aO] at this));have bd:n9=fs.length:=by have:=aM.out;rw[List.take_length] at this;exact this
   subst bd;have ho:=OW.out;rw[List.take_length] at ho;have RR:=QQ (Zk.of_own (f:=frV) rfl ho (λh=>by have:=NL.out;rw[List.take_length] at this;exact this h));have u:=bn.out wr A9 c9 (H+1) RR.out;rw[aO] at u;have V:=HB.out;clear ho aM OW NL HB;rcases hpr:prR v rev fl fs with _|PT
   ·rw[hpr] at u V;have HB:=QQ V;unfold ZN at u;clear hpr V;go_wp2_with (first
     |(go_at_call 94;refine u.mono ?_;clear u;rintro e w5 ⟨ah,n,a,rfl,U⟩;have S5:=QQ (SR.below ah);have aC:=QQ U;have aQ:=br.out n a U;clear U ah)
     |(go_at_call 8;refine MR (aQ _) λw6 D=>?_;have bN:=S5.h.lt;have bY:=S5.hH;have S6:=QQ ((S5.alloc _).below D);have C6:=QQ ((Bx.new w5 #[.int .i64 n,.int .i64 a] 34).below D);clear D aQ N c2 L J I d0 d1 d2 d3 g3 Z Y r2 X l1;obtain⟨⟨N,c2,L,J,I⟩,⟨d0,d1,d2,d3,g3⟩,⟨Z,Y,r2,X⟩,l1⟩:=S6.cells e1.out e2.out e3.out e4.out e5.out;have u0:=C6.cell 0;have u1:=C6.cell 1))
    go_region
    all_goals
     go_wp2_with fail
     refine bodyPost_ret (Zap rfl _ _ (w.heap.size+1) _ _ _ _ (.string ⟨#[]⟩) rfl rfl (Zal S6.f (.int .i64 n) (.int .i64 a)).drew underlying34 rfl (by kernel_rfl)) rfl (HB.out _ _ ⟨?_,n,a,rfl,aC.out⟩);exact ZbD ((S6.low.setCell (Nat.le_succ _) _).setCell (Nat.le_succ _) _)
   ·rw[hpr] at u V;have HB:=QQ V;clear V;have bB:=bo.out PT hpr;unfold ZN at u;clear hpr;have aN:∀wx:World,Calls prog 35 #[.slice (some ⟨wx.heap.size,0,none⟩) 2 2] (wx.alloc (.cells #[.string (B PT),.string (B q)] 9)) λe w'=>e=.returned (.string (B (PT++q)))/\Below (wx.alloc (.cells #[.string (B PT),.string (B q)] 9)).heap.size (wx.alloc (.cells #[.string (B PT),.string (B q)] 9)) w':=λwx=>by
     have h:=Zik [PT,q] (by simp) (by simp;omega) (by simp) wx;rw[show [PT,q].flatten=PT++q by simp] at h;exact h
    have aj:=Zj PT;go_wp2_with (first
     |(go_at_call 94;refine u.mono ?_;clear u;rintro e w5 ⟨ah,rfl⟩;have S5:=QQ (SR.below ah);clear ah)
     |(go_at_call 8;refine MR (bf _) λw6 D=>?_;have S6:=QQ ((S5.alloc _).below D);clear D N c2 L J I d0 d1 d2 d3 g3 Z Y r2 X l1;obtain⟨⟨N,c2,L,J,I⟩,⟨d0,d1,d2,d3,g3⟩,⟨Z,Y,r2,X⟩,l1⟩:=S6.cells e1.out e2.out e3.out e4.out e5.out)
     |(go_at_call 35;refine(aN _).mono ?_;clear aN;rintro e w7 ⟨rfl,aR⟩;have S7:=QQ ((S6.alloc _).below aR);clear aR N c2 L J I d0 d1 d2 d3 g3 Z Y r2 X l1;obtain⟨⟨N,c2,L,J,I⟩,⟨d0,d1,d2,d3,g3⟩,⟨Z,Y,r2,X⟩,l1⟩:=S7.cells e1.out e2.out e3.out e4.out e5.out))
    refine bodyPost_ret (Zap rfl _ _ (w.heap.size+1) _ _ _ _ (.string (B (PT++q))) rfl rfl (Zal S7.f (.int .i64 0) (.int .i64 0)) underlying34 rfl (by kernel_rfl)) rfl (HB.out _ _ ⟨?_,rfl⟩);exact(S7.low.setCell (Nat.le_succ _) _).setCell (Nat.le_succ _) _
