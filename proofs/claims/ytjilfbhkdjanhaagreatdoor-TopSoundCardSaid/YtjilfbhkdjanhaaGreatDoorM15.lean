/- Lemmas for a statement on the tops; conditions: as each says. -/
import Derived.Test.YtjilfbhkdjanhaaGreatDoorM3
import Derived.Test.YtjilfbhkdjanhaaGreatDoorM14
set_option linter.all false
set_option maxRecDepth 100000
set_option maxHeartbeats 4000000
open Go.Proofs.Tryz
namespace Go.Proofs.YtjilfbhkdjanhaaGreatDoor
open Go Go.RowKit
def ZdU(v:Nat)(id:List UInt8):Bool:=decide (0<Zs v)&&(id.length==Zs v&&Zax id==Zs v)
def ZqZ(v:Int)(id:List UInt8)(hid:id.length<=1000000000)(w:World):
 Calls prog 291 #[.int .i64 v,.string (B id)] w λe w'=>e=.returned (.bool (ZdU v.toNat id))/\w=w':=by
 have j:=λw=>ZfG v w;have C:=λw=>ZlJ id hid w;have N:=Zj id;obtain⟨R,hR⟩:∃R,R=ZdU v.toNat id:=⟨_,rfl⟩
 unfold ZdU at hR;rw[show ZdU v.toNat id=R by rw[hR];rfl];generalize Zs v.toNat=n at*;by_cases J:0<n
 ·by_cases q:id.length=n
  ·by_cases D:Zax id=n
   ·have L:((id.length:Int)==(n:Int))=true:=by rw[q];simp
    have O:((Zax id:Int)==(n:Int))=true:=by rw[D];simp
    have u:Hid (R=true):=QQ (by rw[hR];simp[J,q,D]);clear hR q D;go_enter func291,ntmps291
    go_wp2_with (first|(go_at_call 50;refine(j _).mono ?_;rintro e y ⟨rfl,rfl⟩)|(go_at_call 103;refine(C _).mono ?_;rintro e y ⟨rfl,rfl⟩))
    go_ret
    exact⟨by rw[u.out];rfl,rfl⟩
   ·have L:((id.length:Int)==(n:Int))=true:=by rw[q];simp
    have O:((Zax id:Int)==(n:Int))=false:=by rw[beq_eq_false_iff_ne];omega
    have u:Hid (R=false):=QQ (by rw[hR];simp[D]);clear hR q D;go_enter func291,ntmps291
    go_wp2_with (first|(go_at_call 50;refine(j _).mono ?_;rintro e y ⟨rfl,rfl⟩)|(go_at_call 103;refine(C _).mono ?_;rintro e y ⟨rfl,rfl⟩))
    go_ret
    exact⟨by rw[u.out];rfl,rfl⟩
  ·have L:((id.length:Int)==(n:Int))=false:=by rw[beq_eq_false_iff_ne];omega
   have u:Hid (R=false):=QQ (by rw[hR];simp[q]);clear hR q;go_enter func291,ntmps291
   go_wp2_with (go_at_call 50;refine(j _).mono ?_;rintro e y ⟨rfl,rfl⟩)
   go_ret
   exact⟨by rw[u.out];rfl,rfl⟩
 ·have I:n=0:=by omega
  have u:Hid (R=false):=QQ (by rw[hR];simp[I]);rw[I] at j;clear hR J I;go_enter func291,ntmps291
  go_wp2_with (go_at_call 50;refine(j _).mono ?_;rintro e y ⟨rfl,rfl⟩)
  go_ret
  exact⟨by rw[u.out];rfl,rfl⟩
def wfF(v:Nat)(f:Fr):Bool:=v==2&&(f.st !=0||f.fm !=0)
def wgF(v:Nat)(f:Fr):Bool:=f.grp !=0&& !ZaC v f.fm
def okF(v:Nat)(f:Fr):Bool:=ZdU v f.id&&(!wfF v f&& !wgF v f)
def ckF(v:Nat)(f:Fr):Int:=if okF v f then 0 else 5
def ZgN(f:Fr)(v:Int)(hid:f.id.length<=1000000000)(w:World):
 Calls prog 236 #[.agg #[.string (B f.id),.int .u8 f.st.toNat,.int .u8 f.fm.toNat,.int .u8 f.grp.toNat,.string (B f.body),.int .i64 f.at_],.int .i64 v] w λe w'=>e=.returned (.agg #[.int .i64 (ckF v.toNat f),.int .i64 0])/\Below w.heap.size w w':=by
 generalize hP:(λ(e:Ending) (w':World)=>e=.returned (.agg #[.int .i64 (ckF v.toNat f),.int .i64 0])/\Below w.heap.size w w')=P at*;have Y:=λw=>ZqZ v f.id hid w;have I:=λw=>ZgQ (B f.id) f.st f.fm v w;have ax:=ZdV f.st;have aA:=ZdV f.fm;have az:=ZdV f.grp;have Hc:Hid (ckF v.toNat f=if ZdU v.toNat f.id&&(!wfF v.toNat f&& !wgF v.toNat f) then 0 else 5):=QQ rfl;have ae:Hid (wfF v.toNat f=(v.toNat==2&&(f.st !=0||f.fm !=0))):=QQ rfl;have ad:Hid (wgF v.toNat f=(f.grp !=0&& !ZaC v.toNat f.fm)):=QQ rfl;generalize ckF v.toNat f=cc at*;generalize wfF v.toNat f=wf at*;generalize wgF v.toNat f=wg at*;generalize ZdU v.toNat f.id=nm at*;generalize ZaC v.toNat f.fm=gg at*;generalize X:(f.st !=0)=V at*;generalize aa:(f.fm !=0)=aC at*;generalize Z:(f.grp !=0)=ac at*;clear X aa Z;go_enter func236,ntmps236
 go_upto_region 1 with fail
 obtain⟨W,L⟩:∃W,W=(w.alloc (.cells (six f) 114)).alloc (.cells #[.int .i64 0,.int .i64 0] 34):=⟨_,rfl⟩
 have b1:Bx W w.heap.size (six f) 114:=by rw[L];exact(Bx.new w _ _).alloc _
 have O:Bx W (w.heap.size+1) #[.int .i64 0,.int .i64 0] 34:=by
  rw[L];have:=Bx.new (w.alloc (.cells (six f) 114)) #[.int .i64 0,.int .i64 0] 34;rw[World.size_alloc] at this;exact this
 have j:Below w.heap.size w W:=by rw[L];exact((Below.refl _ _).alloc NL _).alloc (by simp) _
 have U:=QQ L;clear L;go_cut [5] (λs5 wx=>s5=.bool wf/\wx=W)
 case first=>
  have u:=ae.out;by_cases h2:v=2
  ·subst h2;rw[show((2:Int).toNat==2)=true from rfl,Bool.true_and] at u;have y:=QQ u;clear u;cases V with
   |true=>
    go_wp2_with fail
    go_meet
    exact⟨by rw[y.out];rfl,U.symm⟩
   |false=>
    go_wp2_with fail
    go_meet
    exact⟨by rw[y.out];rfl,U.symm⟩
  ·have e2:(v==2)=false:=by simpa using h2
   rw[show(v.toNat==2)=false by rw[beq_eq_false_iff_ne];omega,Bool.false_and] at u;have y:=QQ u;clear u h2;go_wp2_with fail
   go_meet
   exact⟨by rw[y.out],U.symm⟩
 obtain⟨rfl,rfl⟩:=hcut;clear U;obtain⟨c0,c1,c2,c3,c4,c5⟩:=Zq.get b1;have hl:=b1.lt;have D:=O.lt;go_upto_region 2 with fail
 go_cut [6] (λs6 wx=>s6=.bool wg/\Bx wx (w.heap.size+1) #[.int .i64 0,.int .i64 0] 34/\Below w.heap.size w wx/\Zq wx w.heap.size f)
 case first=>
  have u:=ad.out;cases ac with
  |true=>
   rw[Bool.true_and] at u;have y:=QQ u;clear u;cases gg with
   |true=>
    go_wp2_with (go_at_call 169;refine MR (I _) λw1 q=>?_)
    go_meet
    exact⟨by rw[y.out];rfl,O.below q,j.trans (q.mono j.size),Bx.below b1 q⟩
   |false=>
    go_wp2_with (go_at_call 169;refine MR (I _) λw1 q=>?_)
    go_meet
    exact⟨by rw[y.out];rfl,O.below q,j.trans (q.mono j.size),Bx.below b1 q⟩
  |false=>
   rw[Bool.false_and] at u;have y:=QQ u;clear u;go_wp2_with fail
   go_meet
   exact⟨by rw[y.out],O,j,b1⟩
 obtain⟨rfl,C,low3,N⟩:=hcut;have B3:=QQ C;have L3:=QQ low3;clear c0 c1 c2 c3 c4 c5 hl D b1 O j low3;obtain⟨c0,c1,c2,c3,c4,c5⟩:=Zq.get N;have x0:=C.cell 0;have x1:=C.cell 1;have xf:=C.free;have D:=C.lt;clear C N;cases nm<;>cases wf<;>cases wg
 all_goals
  go_wp2_with (go_at_call 291;refine(Y _).mono ?_;rintro e w1 ⟨rfl,rfl⟩)
  have J:=Hc.out;simp at J;subst J
  first
  |(have F:=Zal B3.out (.int .i64 0) (.int .i64 0)
    refine bodyPost_ret (results_cell_row rfl _ _ (w.heap.size+1) _ _ _ _ rfl F underlying34 rfl (by kernel_rfl)) rfl ?_;rw[<-hP];exact⟨rfl,(L3.setCell (p:=⟨w.heap.size+1,0,none⟩) (Nat.le_succ _) _).setCell (p:=⟨w.heap.size+1,1,none⟩) (Nat.le_succ _) _⟩)
  |(have F:=Zal B3.out (.int .i64 5) (.int .i64 0)
    refine bodyPost_ret (results_cell_row rfl _ _ (w.heap.size+1) _ _ _ _ rfl F underlying34 rfl (by kernel_rfl)) rfl ?_;rw[<-hP];exact⟨rfl,(L3.setCell (p:=⟨w.heap.size+1,0,none⟩) (Nat.le_succ _) _).setCell (p:=⟨w.heap.size+1,1,none⟩) (Nat.le_succ _) _⟩)
def Zux(v:Nat)(f:Fr):(ZD v f).length=f.body.length+(if ZaC v f.fm then 1 else 0)+(if ZaY v f.fm then 4 else 0)+(if Zbv v f.fm then ZaK f.body else 0):=by
 have:=ZeB f.body;have j:(Zaq f.body.length).length=4:=rfl;simp only[ZD,List.length_append];split<;>split<;>split<;>simp only[List.length_singleton,List.length_nil]<;>omega
structure FBx (w0 wx:World)(f:Fr):Prop where
 fr:Zq wx w0.heap.size f
 low:Below w0.heap.size w0 wx
def FBx.below{w0 w w':World}{f:Fr}(h:FBx w0 w f)(hb:Below w.heap.size w w'):FBx w0 w' f:=⟨h.fr.below hb,h.low.trans (hb.mono h.low.size)⟩
def ZkV(f:Fr)(v:Int)(aq:f.body.length<=400000000)(w:World):
 Calls prog 257 #[.agg #[.string (B f.id),.int .u8 f.st.toNat,.int .u8 f.fm.toNat,.int .u8 f.grp.toNat,.string (B f.body),.int .i64 f.at_],.int .i64 v] w λe w'=>e=.returned (.int .i64 (ZD v.toNat f).length)/\Below w.heap.size w w':=by
 have aj:=λw=>ZgQ (B f.id) f.st f.fm v w;have ai:=λw=>Zij (B f.id) f.st f.fm v w;have aa:=λw=>Zid (B f.id) f.st f.fm v w;have ak:=λw=>Zic f.body (by omega) w;have ap:=ZdQ f.body;have ao:=Zj f.body;have ad:=QQ (Zux v.toNat f);generalize (ZD v.toNat f).length=IL at*;generalize ZaC v.toNat f.fm=G at*;generalize ZaY v.toNat f.fm=M at*;generalize Zbv v.toNat f.fm=S at*;generalize ZaK f.body=E at*;obtain⟨L,U⟩:∃L:Nat,L=f.body.length+if G then 1 else 0:=⟨_,rfl⟩
 obtain⟨N,O⟩:∃N:Nat,N=L+if M then 4 else 0:=⟨_,rfl⟩
 have W:L<=400000001:=by rw[U];split<;>omega
 have V:N<=400000005:=by rw[O];split<;>omega
 have H1:=QQ U;have H2:=QQ O;clear U O;have ac:Hid (FBx w (w.alloc (.cells (six f) 114)) f):=QQ ⟨Bx.new w _ _,(Below.refl _ _).alloc NL _⟩;obtain⟨C,y,c2,u,q,j⟩:=ac.fr.get;go_enter func257,ntmps257
 go_upto_if 12 with(go_at_call 169;refine MR (aj _) λw1 W=>?_;have Z:=QQ (ac.below W);clear W C y c2 u q j)
 obtain⟨C,y,c2,u,q,j⟩:=Z.fr.get;go_cut [5] (λs5 wx=>s5=.int .i64 L/\FBx w wx f)
 case first=>
  cases G with
  |true=>
   have J:=QQ (show(f.body.length:Int)+1=L by rw[H1.out];simp);go_wp2_with fail
   go_meet
   exact⟨by rw[J.out],Z.out⟩
  |false=>
   have J:=QQ (show(f.body.length:Int)=L by rw[H1.out];simp);go_wp2_with fail
   go_meet
   exact⟨by rw[J.out],Z.out⟩
 obtain⟨rfl,hcut⟩:=hcut;have ab:=QQ hcut;clear hcut C y c2 u q j;obtain⟨C,y,c2,u,q,j⟩:=ab.fr.get
 go_upto_if 18 with(go_at_call 170;refine MR (ai _) λw2 V=>?_;have Y:=QQ (ab.below V);clear V C y c2 u q j)
 obtain⟨C,y,c2,u,q,j⟩:=Y.fr.get;go_cut [5] (λs5 wx=>s5=.int .i64 N/\FBx w wx f)
 case first=>
  cases M with
  |true=>
   have J:=QQ (show(L:Int)+4=N by rw[H2.out];simp);go_wp2_with fail
   go_meet
   exact⟨by rw[J.out],Y.out⟩
  |false=>
   have J:=QQ (show(L:Int)=N by rw[H2.out];simp);go_wp2_with fail
   go_meet
   exact⟨by rw[J.out],Y.out⟩
 obtain⟨rfl,hcut⟩:=hcut;have X:=QQ hcut;clear hcut C y c2 u q j;obtain⟨C,y,c2,u,q,j⟩:=X.fr.get;cases S with
 |true=>
  have J:=QQ (show(N:Int)+E=IL by have:=ad.out;rw[this,H2.out,H1.out];simp);go_wp2_with (first
   |(go_at_call 171;refine MR (aa _) λw3 D=>?_;have I:=QQ (X.below D);clear D C y c2 u q j;obtain⟨C,y,c2,u,q,j⟩:=I.fr.get)
   |(go_at_call 237;refine(ak _).mono ?_;rintro e w4 ⟨rfl,rfl⟩))
  go_ret
  exact⟨ZaH J.out,I.low⟩
 |false=>
  have J:=QQ (show(N:Int)=IL by have:=ad.out;rw[this,H2.out,H1.out];simp);go_wp2_with (go_at_call 171;refine MR (aa _) λw3 D=>?_;have I:=QQ (X.below D);clear D C y c2 u q j;obtain⟨C,y,c2,u,q,j⟩:=I.fr.get)
  go_ret
  exact⟨ZaH J.out,I.low⟩
def sV(y:List UInt8):Value:=.string (B y)
def ZoQ:(prog.info? 9).map (λi=>(i.zero,i.size,i.bytes))=some (some (.string ⟨#[]⟩),1,16):=by kernel_rfl
section
variable {ops:Array Oper} {rest:List Oper} {o:Oper} {a:Act} {Q:Exit->Act->World->Prop}
theorem Za5(O:o.guard=none)(s x:Operand)(ho:o.op=.call {callee:=.builtin .append,args:=#[s,x],argTypes:=#[89,89]})(base:Nat)(v:Value)(L:List (List UInt8))(hs:a.eval s=v)(W:World)(y:List UInt8)
 (q:W.ownsRow base 9 1 v L.length (L.map sV)) (D:base<=W.heap.size) (X:L.length<=16777216) (hx:a.eval x=.slice (some ⟨W.heap.size,0,none⟩) 1 1)
 (h:∀U w',Hid (w'.ownsRow base 9 1 U (L++[y]).length ((L++[y]).map sV))->Below base W w'->W.grownBy w' v.ownBlock->wpList prog ops Q rest (a.put o.dst U) w'):
 wpList prog ops Q (o::rest) a (W.alloc (.cells #[.string (B y)] 9)):=by
 obtain⟨i0,hi,N,J,I⟩:=info_parts ZoQ;refine wpList_append_own _ O s x 89 ho base 9 i0 _ 1 16 underlying89 hi N J I rfl (by decide) v L.length _ hs (q.alloc _) ⟨W.heap.size,0,none⟩ 1 1 [sV y] hx rfl (Zgo W [sV y] _) ?_ (by unfold maxLen;omega) (by omega) (by simp;omega) ?_
 ·intro u V;simp only[List.mem_singleton] at V;subst V;rfl
 ·intro Z Y C j _;refine h Z Y (QQ ?_) (Zad ((Below.refl _ W).alloc D _) (q.alloc _) j (by simp;omega) NL) ⟨j.os,j.tape,j.output,by have:=j.size;simp at this;omega,λk hk hc=>(j.block k (by simp;omega) hc).trans (Below.heap_alloc _ _ _ hk)⟩;rw[List.length_append,List.map_append];exact C
theorem Zg4(O:o.guard=none)(s x:Operand)(ho:o.op=.call {callee:=.builtin .append,args:=#[s,x],argTypes:=#[89,89]})(base:Nat)(v:Value)(L:List (List UInt8))(hs:a.eval s=v)(W:World)(y z:List UInt8)
 (q:W.ownsRow base 9 1 v L.length (L.map sV)) (D:base<=W.heap.size) (X:L.length<=16777216) (hx:a.eval x=.slice (some ⟨W.heap.size,0,none⟩) 2 2)
 (h:∀U w',Hid (w'.ownsRow base 9 1 U (L++[y,z]).length ((L++[y,z]).map sV))->Below base W w'->W.grownBy w' v.ownBlock->wpList prog ops Q rest (a.put o.dst U) w'):
 wpList prog ops Q (o::rest) a (W.alloc (.cells #[.string (B y),.string (B z)] 9)):=by
 obtain⟨i0,hi,N,J,I⟩:=info_parts ZoQ;refine wpList_append_own _ O s x 89 ho base 9 i0 _ 1 16 underlying89 hi N J I rfl (by decide) v L.length _ hs (q.alloc _) ⟨W.heap.size,0,none⟩ 2 2 [sV y,sV z] hx rfl (Zgo W [sV y,sV z] _) ?_ (by unfold maxLen;omega) (by omega) (by simp;omega) ?_
 ·intro u V;simp only[List.mem_cons,List.not_mem_nil,or_false] at V;rcases V with rfl|rfl<;>rfl
 ·intro Z Y C j _;refine h Z Y (QQ ?_) (Zad ((Below.refl _ W).alloc D _) (q.alloc _) j (by simp;omega) NL) ⟨j.os,j.tape,j.output,by have:=j.size;simp at this;omega,λk hk hc=>(j.block k (by simp;omega) hc).trans (Below.heap_alloc _ _ _ hk)⟩;rw[List.length_append,List.map_append];exact C
end
def ZmS(l:List (List UInt8)):l.flatMap (λy=>[sV y])=l.map sV:=by induction l with|nil=>rfl|cons a l j=>rw[List.flatMap_cons,j];rfl
def ZdM{base:Nat}{v:Value}{l:List (List UInt8)}{w:World}(h:w.ownsRow base 9 1 v l.length (l.map sV))(q:l≠[])(I:l.flatten.length<=35184372089000)(hn:l.length<=35184372089000):
 Calls prog 35 #[v] w λe w'=>e=.returned (.string (B l.flatten))/\Below w.heap.size w w':=by
 have D:Zk (λy=>[sV y]) base w v l:=Zk.of_own (e:=9) (m:=1) rfl (by rw[ZmS];exact h) (λe=>absurd e q);rcases D with⟨h0,_⟩|⟨L,c,h0,rfl,J,N,O,u⟩
 ·exact absurd h0 q
 ·rw[ZmS] at u;exact Zq6 L c l w (λj x C=>u j _ (by rw[List.getElem?_map,C];rfl)) q J I hn
def Zik(l:List (List UInt8))(j:l≠[])(q:l.flatten.length<=35184372089000)(hn:l.length<=1000)(w:World):
 Calls prog 35 #[.slice (some ⟨w.heap.size,0,none⟩) l.length l.length] (w.alloc (.cells (l.map sV).toArray 9)) λe w'=>e=.returned (.string (B l.flatten))/\Below (w.alloc (.cells (l.map sV).toArray 9)).heap.size (w.alloc (.cells (l.map sV).toArray 9)) w':=by
 have h:=World.ownsRow_lit (base:=w.heap.size) (e:=9) (size:=1) w (l.map sV).toArray l.length NL (by unfold maxLen;omega) (by simp);exact ZdM (l:=l) h j q (by omega)
def ZsK(x:UInt8):Zas x.toNat 1=[x]:=by
 have:=x.toNat_lt;simp only[Zas,Nat.pow_zero,Nat.div_one];rw[Nat.mod_eq_of_lt this];simp
def ZdD(x:UInt8)(w:World):Calls prog 34 #[.int .u64 x.toNat,.int .i64 1] w λe w'=>e=.returned (.string (B [x]))/\Below w.heap.size w w':=by
 have h:=ZeP x.toNat 1 (by have:=x.toNat_lt;omega) (by omega) (by omega) w;rw[ZsK] at h;exact h
def fpR(v:Nat)(f:Fr):Except Nat (List UInt8):=
 if okF v f=false then .error 5 else if 268435455<(ZD v f).length\/(v=2/\16777215<(ZD v f).length) then .error 4 else .ok (ZM v f)
def ZdG(w:World)(r:Except Nat (List UInt8))(e:Ending)(w':World):Prop:=Below w.heap.size w w'/\match r with
 | .ok s=>e=.returned (.tuple #[.string (B s),.agg #[.int .i64 0,.int .i64 0]])
 | .error x=>e=.returned (.tuple #[.string ⟨#[]⟩,.agg #[.int .i64 x,.int .i64 0]])/\x≠0
structure QSt (w0 wx:World)(f:Fr):Prop where
 fr:Zq wx w0.heap.size f
 res:Bx wx (w0.heap.size+1) #[.int .i64 0,.int .i64 0] 34
 low:Below w0.heap.size w0 wx
section
variable {w0 w w':World} {f:Fr}
theorem QSt.below(h:QSt w0 w f)(hb:Below w.heap.size w w'):QSt w0 w' f:=⟨h.fr.below hb,h.res.below hb,h.low.trans (hb.mono h.low.size)⟩
theorem QSt.alloc(h:QSt w0 w f)(o:Obj):QSt w0 (w.alloc o) f:=h.below ((Below.refl _ _).alloc NL _)
theorem QSt.drew(h:QSt w0 w f):QSt w0 w.drew f:=h.below (ZbD (Below.refl _ _))
theorem QSt.low2(h:QSt w0 w f)(hb:Below (w0.heap.size+2) w w'):QSt w0 w' f:=
 ⟨(hb.block _ (by omega)).trans h.fr,(hb.block _ (by omega)).trans h.res,h.low.trans (hb.mono (by omega))⟩
theorem QSt.cells(h:QSt w0 w f):(w.cell? ⟨w0.heap.size,0,none⟩=some (.string (B f.id))/\w.cell? ⟨w0.heap.size,1,none⟩=some (.int .u8 f.st.toNat)/\w.cell? ⟨w0.heap.size,2,none⟩=some (.int .u8 f.fm.toNat)/\w.cell? ⟨w0.heap.size,3,none⟩=some (.int .u8 f.grp.toNat)/\w.cell? ⟨w0.heap.size,4,none⟩=some (.string (B f.body))/\w.cell? ⟨w0.heap.size,5,none⟩=some (.int .i64 f.at_))/\
 (w.cell? ⟨w0.heap.size+1,0,none⟩=some (.int .i64 0)/\w.cell? ⟨w0.heap.size+1,1,none⟩=some (.int .i64 0))/\(∀j,w.frozen? ⟨w0.heap.size+1,j,none⟩=false)/\w0.heap.size<w.heap.size/\w0.heap.size+2<=w.heap.size:=
 ⟨h.fr.get,⟨h.res.cell 0,h.res.cell 1⟩,h.res.free,h.fr.lt,h.res.lt⟩
theorem QSt.fin(h:QSt w0 w f)(x y:Value):Bx ((w.setCell ⟨w0.heap.size+1,0,none⟩ x).setCell ⟨w0.heap.size+1,1,none⟩ y) (w0.heap.size+1) #[x,y] 34/\Below w0.heap.size w0 ((w.setCell ⟨w0.heap.size+1,0,none⟩ x).setCell ⟨w0.heap.size+1,1,none⟩ y):=
 ⟨Zal h.res x y,(h.low.setCell (p:=⟨w0.heap.size+1,0,none⟩) (Nat.le_succ _) x).setCell (p:=⟨w0.heap.size+1,1,none⟩) (Nat.le_succ _) y⟩
end
def Zqj(f:Fr)(v:Int)(h1:f.id.length<=200000000)(h2:f.body.length<=200000000)(j:okF v.toNat f=false)(w:World):
 Calls prog 182 #[.agg #[.string (B f.id),.int .u8 f.st.toNat,.int .u8 f.fm.toNat,.int .u8 f.grp.toNat,.string (B f.body),.int .i64 f.at_],.int .i64 v] w (ZdG w (fpR v.toNat f)):=by
 have hR:fpR v.toNat f=.error 5:=by unfold fpR;rw[if_pos j]
 rw[hR];generalize O:ZdG w (.error 5)=P at*;have u:=λw=>ZgN f v (by omega) w;rw[show ckF v.toNat f=5 by unfold ckF;rw[j];rfl] at u;have I:=λw=>ZV 5 0 (by decide) w;have J:Hid (QSt w ((w.alloc (.cells (six f) 114)).alloc (.cells #[.int .i64 0,.int .i64 0] 34)) f):=QQ ⟨(Bx.new w _ _).alloc _,by have:=Bx.new (w.alloc (.cells (six f) 114)) #[.int .i64 0,.int .i64 0] 34;rw[World.size_alloc] at this;exact this,((Below.refl _ _).alloc NL _).alloc (by simp) _⟩;clear j hR;go_enter func182,ntmps182
 go_wp2_with (first
  |(go_at_call 236;refine MR (u _) λL y=>?_;have D:=QQ (J.below y);clear y)
  |(go_at_call 8;refine MR (I _) λX q=>?_;have C:=QQ ((D.alloc _).below q);have BX:=QQ ((Bx.new L _ _).below q);clear q;obtain⟨⟨c0,c1,c2,c3,c4,c5⟩,⟨r0,Z⟩,Y,l1,l2⟩:=C.cells;have W:=BX.cell 0;have V:=BX.cell 1;have U:=BX.lt;have N:=D.res.lt))
 go_region
 all_goals
  go_wp2_with fail
  have F:=C.fin (.int .i64 5) (.int .i64 0);refine bodyPost_ret (Zap rfl _ _ (w.heap.size+1) _ _ _ _ _ rfl rfl F.1.drew underlying34 rfl (by kernel_rfl)) rfl ?_;rw[<-O];exact⟨ZbD F.2,rfl,by decide⟩
def Zqk(f:Fr)(v:Int)(h1:f.id.length<=200000000)(h2:f.body.length<=200000000)(D:okF v.toNat f=true)(hg:268435455<(ZD v.toNat f).length\/(v.toNat=2/\16777215<(ZD v.toNat f).length))(w:World):
 Calls prog 182 #[.agg #[.string (B f.id),.int .u8 f.st.toNat,.int .u8 f.fm.toNat,.int .u8 f.grp.toNat,.string (B f.body),.int .i64 f.at_],.int .i64 v] w (ZdG w (fpR v.toNat f)):=by
 have hR:fpR v.toNat f=.error 4:=by unfold fpR;rw[if_neg (by rw[D];decide),if_pos hg]
 rw[hR];generalize hP:ZdG w (.error 4)=P at*;have I:=λw=>ZgN f v (by omega) w;rw[show ckF v.toNat f=0 by unfold ckF;rw[D];rfl] at I;have X:=λw=>ZG 0 0 rfl w;have W:=λw=>ZkV f v (by omega) w;generalize (ZD v.toNat f).length=IL at*;have ad:Hid (QSt w ((w.alloc (.cells (six f) 114)).alloc (.cells #[.int .i64 0,.int .i64 0] 34)) f):=QQ ⟨(Bx.new w _ _).alloc _,by have:=Bx.new (w.alloc (.cells (six f) 114)) #[.int .i64 0,.int .i64 0] 34;rw[World.size_alloc] at this;exact this,((Below.refl _ _).alloc NL _).alloc (by simp) _⟩;clear D hR;have fin:∀wx,QSt w wx f->∀(tm:Array Value),tm.getD 4 undef=.string ⟨#[]⟩->tm.getD 5 undef=.pointer (some ⟨w.heap.size+1,0,none⟩)->bodyPost prog Tryz.f182 P .ret {tmps:=tm,defers:=[]} ((wx.setCell ⟨w.heap.size+1,0,none⟩ (.int .i64 4)).setCell ⟨w.heap.size+1,1,none⟩ (.int .i64 0)):=by
  intro wx hq tm t4 t5;have F:=hq.fin (.int .i64 4) (.int .i64 0);refine bodyPost_ret (Zap rfl _ _ (w.heap.size+1) _ _ _ _ _ t4 t5 F.1 underlying34 rfl (by kernel_rfl)) rfl ?_;rw[<-hP];exact⟨F.2,rfl,by decide⟩
 have Fin:=QQ fin;clear fin;by_cases ai:(IL:Int)>268435455
 ·clear hg;go_enter func182,ntmps182
  go_wp2_with (first
   |(go_at_call 236;refine MR (I _) λw1 u=>?_;have J:=QQ (ad.below u);clear u)
   |(go_at_call 8;refine MR (X _) λw2 j=>?_;have C:=QQ ((J.alloc _).below j);clear j;obtain⟨⟨c0,c1,c2,c3,Z,Y⟩,⟨O,N⟩,L,V,U⟩:=C.cells)
   |(go_at_call 257;refine MR (W _) λw3 q=>?_;have y:=QQ (C.below q);clear q c0 c1 c2 c3 Z Y O N L V U;obtain⟨⟨c0,c1,c2,c3,Z,Y⟩,⟨O,N⟩,L,V,U⟩:=y.cells))
  exact Fin.out _ y.out _ rfl rfl
 ·have af:v=2:=by omega
  subst af;have j:(IL:Int)>16777215:=by omega
  clear hg;go_enter func182,ntmps182
  go_wp2_with (first
   |(go_at_call 236;refine MR (I _) λw1 u=>?_;have J:=QQ (ad.below u);clear u)
   |(go_at_call 8;refine MR (X _) λw2 j=>?_;have C:=QQ ((J.alloc _).below j);clear j;obtain⟨⟨c0,c1,c2,c3,Z,Y⟩,⟨O,N⟩,L,V,U⟩:=C.cells)
   |(go_at_call 257;refine MR (W _) λw3 q=>?_;have y:=QQ (C.below q);clear q c0 c1 c2 c3 Z Y O N L V U;obtain⟨⟨c0,c1,c2,c3,Z,Y⟩,⟨O,N⟩,L,V,U⟩:=y.cells))
  exact Fin.out _ y.out _ rfl rfl
