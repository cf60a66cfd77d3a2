/- Lemmas for a statement on the tops; conditions: as each says. -/
import Derived.Maps.OwnOps
import Derived.Maps.OwnSet
import Derived.Maps.Views
import Derived.Test.YtjilfbhkdjanhaaGreatDoorM25
set_option linter.all false
set_option maxRecDepth 100000
set_option maxHeartbeats 4000000
open Go.Proofs.Tryz
namespace Go.Proofs.YtjilfbhkdjanhaaGreatDoor
open Go Go.RowKit Go.Maps
def law32:Keyed prog 21:=int_keyed underlying21
def zeroI(w:World):(zeroValue 3).run prog w=.ok (.int .i64 0) w:=by kernel_rfl
def wf_i32{p:Int}(h: -2147483648<=p/\p<2147483648):(Lit.int .i32 p).wf=true:=by
 simp[Lit.wf,IntKind.min,IntKind.max,IntKind.bits,IntKind.signed];omega
def wf_i64{c:Nat}(h:c<256):(Lit.int .i64 (c:Int)).wf=true:=by
 simp[Lit.wf,IntKind.min,IntKind.max,IntKind.bits,IntKind.signed];omega
def MpI(w:World)(b n:Nat)(M:Int->Option Nat):Prop:=∃D:DataW Unit,w.ownsMap prog 21 (plainElem prog 3) b n D/\(∀p:Int,(M p).isSome=Maps.has D (.int .i32 p))/\∀(p:Int) (c:Nat),M p=some c->∀z,D.atKey (.int .i32 p) z=.lit (.int .i64 (c:Int))
def MpI.made(w:World):MpI (w.alloc (.map #[] 0)) w.heap.size 0 (λ_=>none):=⟨.map [],World.ownsMap_made _ _ _ _,λ_=>rfl,λ_ _ h=>by cases h⟩
def MpI.below{w w':World}{b n:Nat}{M:Int->Option Nat}(h:MpI w b n M)(hb:Below w.heap.size w w'):MpI w' b n M:=by
 obtain⟨D,u,q⟩:=h;exact⟨D,u.kept (row:=none) ⟨hb.os,hb.tape,hb.output,hb.size,λk j _=>hb.block k j⟩ (by simp),q⟩
def MpI.lt{w:World}{b n:Nat}{M:Int->Option Nat}(h:MpI w b n M):b<w.heap.size:=by
 obtain⟨D,j,_⟩:=h;exact j.lt
def MpI.mono{w:World}{b n j:Nat}{M:Int->Option Nat}(h:MpI w b n M)(hn:n<=j):MpI w b j M:=by
 obtain⟨D,u,q⟩:=h;exact⟨D,u.mono hn,q⟩
def MpI.congr{w:World}{b n:Nat}{M j:Int->Option Nat}(h:MpI w b n M)(e:∀p,M p=j p):MpI w b n j:=by rw[show M=j from funext e] at h;exact h
def MpI.apart{w:World}{b n:Nat}{M:Int->Option Nat}(h:MpI w b n M){a:Addr}{v:Value}(j:w.cell? a=some v):a.block≠b:=by
 rintro rfl;obtain⟨D,⟨y,q,u,_⟩,_⟩:=h;unfold World.cell? at j;rw[u] at j;cases j
section
variable {ops:Array Oper} {rest:List Oper} {o:Oper} {a:Act} {Q:Exit->Act->World->Prop} {w:World} {b n:Nat} {M:Int->Option Nat}
theorem Zgd(J:o.guard=none)(m x:Operand)(q:o.op=Op.lookup 300 m x true)(h:MpI w b n M)(C:a.eval m=.map (some b))(p:Int)(u:a.eval x=.int .i32 p)(y: -2147483648<=p/\p<2147483648)
 (hK:∀c:Int,(∀k,M p=some k->c=k)->wpList prog ops Q rest (a.put o.dst (.tuple #[.int .i64 c,.bool (M p).isSome])) w):
 wpList prog ops Q (o::rest) a w:=by
 obtain⟨D,O,N,L⟩:=h;refine wpList_lookup_own_ok_int _ J m x 300 q 21 3 .i64 law32 underlying300 underlying3 (zeroI _) b n D C O (.int .i32 p) (.int .i32 p) u (keyOf_int_mk underlying21 (wf_i32 y)) ?_;intro c j _;rw[<-N];refine hK c λk I=>?_;rw[L p k I] at j;simpa using j.symm
theorem mp_yes(D:o.guard=none)(m x:Operand)(j:o.op=Op.lookup 300 m x true)(h:MpI w b n M)(C:a.eval m=.map (some b))(p:Int)(u:a.eval x=.int .i32 p)(y: -2147483648<=p/\p<2147483648){k:Nat}(q:M p=some k)
 (hK:wpList prog ops Q rest (a.put o.dst (.tuple #[.int .i64 (k:Int),.bool true])) w):
 wpList prog ops Q (o::rest) a w:=
 Zgd D m x j h C p u y λc I=>by rw[I k q,q];exact hK
theorem mp_no(D:o.guard=none)(m x:Operand)(j:o.op=Op.lookup 300 m x true)(h:MpI w b n M)(y:a.eval m=.map (some b))(p:Int)(q:a.eval x=.int .i32 p)(u: -2147483648<=p/\p<2147483648)(C:M p=none)
 (hK:∀c:Int,wpList prog ops Q rest (a.put o.dst (.tuple #[.int .i64 c,.bool false])) w):
 wpList prog ops Q (o::rest) a w:=
 Zgd D m x j h y p q u λc _=>by rw[C];exact hK c
theorem mp_put(O:o.guard=none)(m x v:Operand)(u:o.op=Op.mapUpdate 300 m x v)(h:MpI w b n M)(N:a.eval m=.map (some b))(p:Int)(I:a.eval x=.int .i32 p)(L: -2147483648<=p/\p<2147483648)(c:Nat)(J:a.eval v=.int .i64 (c:Int))(U:c<256)(hn:n<=10000000)
 (hK:∀w',MpI w' b (n+1) (λq=>if q=p then some c else M q)->w.grownBy w' (some b)->wpList prog ops Q rest (a.put o.dst undef) w'):
 wpList prog ops Q (o::rest) a w:=by
 obtain⟨D,C,Y,X⟩:=h;refine wpList_mapUpdate_own _ O m x v 300 u 21 3 law32 underlying300 _ b n D N C (by unfold maxLen;omega) (.int .i32 p) (.int .i64 (c:Int)) (.int .i32 p) I J (keyOf_int_mk underlying21 (wf_i32 L)) (.lit (.int .i64 (c:Int))) [] (plainElem_int underlying3 (wf_i64 U)) ?_;intro w' W V;have y:IsMap D:=by obtain⟨Z,cl,_,_,_,rfl⟩:=C;exact⟨_,rfl⟩
 refine hK w' ⟨_,W,λq=>?_,λq k j z=>?_⟩ V
 ·show(if q=p then some c else M q).isSome=_
  by_cases e:q=p
  ·subst e;rw[if_pos rfl,has_put_same y (show WideAt.IsKeyLit (.int .i32 q) from trivial)];rfl
  ·rw[if_neg e,Y,has_put_other (by simpa using e)]
 ·have j:(if q=p then some c else M q)=some k:=j;by_cases e:q=p
  ·subst e;rw[if_pos rfl] at j;injection j with j;subst j;exact atKey_put_same y (show WideAt.IsKeyLit (.int .i32 q) from trivial) _ _
  ·rw[if_neg e] at j;rw[atKey_put_other (by simpa using e)];exact X q k j z
end
def ZgM(r:List UInt8⊕Nat):Value:=match r with
 | .inl q=>.tuple #[.string ⟨q.toArray⟩,.agg #[.int .i64 0,.int .i64 0]]
 | .inr j=>.tuple #[.string ⟨#[]⟩,.agg #[.int .i64 6,.int .i64 (j:Int)]]
def Zib(r:List UInt8⊕Nat)(w0:World)(e:Ending)(w':World):Prop:=e=.returned (ZgM r)/\Below w0.heap.size w0 w'
structure One (K:Nat)(w w':World):Prop where
 os:w'.os=w.os
 tape:w'.tape=w.tape
 output:w'.output=w.output
 size:w.heap.size<=w'.heap.size
 block:∀k,k<w.heap.size->k≠K->w'.heap[k]? =w.heap[k]?
def One.of{K:Nat}{w w':World}(h:Below w.heap.size w w'):One K w w':=⟨h.os,h.tape,h.output,h.size,λk j _=>h.block k j⟩
def One.grown{K:Nat}{w w':World}(h:w.grownBy w' (some K)):One K w w':=⟨h.os,h.tape,h.output,h.size,λk j q=>h.block k j (by simpa using q)⟩
def One.trans{K:Nat}{a b c:World}(h:One K a b)(g:One K b c):One K a c:=
 ⟨g.os.trans h.os,g.tape.trans h.tape,g.output.trans h.output,Nat.le_trans h.size g.size,λk j q=>(g.block k (Nat.lt_of_lt_of_le j h.size) q).trans (h.block k j q)⟩
def One.below{K B:Nat}{w w':World}(h:One K w w')(hB:B<=K)(hs:B<=w.heap.size):Below B w w':=⟨h.os,h.tape,h.output,h.size,λk j=>h.block k (by omega) (by omega)⟩
def One.cell{K:Nat}{w w':World}(h:One K w w'){p:Addr}(j:p.block<w.heap.size)(q:p.block≠K):w'.cell? p=w.cell? p:=World.cell?_of_block (w:=w) (h.block p.block j q)
def ZsY{l:List Pr}{x:Pr}(h:(ZO l x.2).isSome=true\/¬x.1<256)(p:Int):ZO l p=ZO (l++[x]) p:=by
 rw[Zl4];by_cases e:x.2=p/\x.1<256
 ·obtain⟨rfl,q⟩:=e;rcases h with h|h
  ·obtain⟨c,j⟩:=Option.isSome_iff_exists.1 h;rw[j];rfl
  ·exact absurd q h
 ·rw[if_neg e,Option.or_none]
def cd_new{l:List Pr}{x:Pr}(h:(ZO l x.2).isSome=false)(u:x.1<256)(p:Int):(if p=x.2 then some x.1 else ZO l p)=ZO (l++[x]) p:=by
 rw[Zl4];by_cases e:p=x.2
 ·subst e;rw[if_pos rfl,if_pos ⟨rfl,u⟩];cases j:ZO l x.2 with
  |none=>rfl
  |some c=>rw[j] at h;cases h
 ·rw[if_neg e,if_neg (λq=>e q.1.symm),Option.or_none]
def ZrY(L:List Pr)(K:Nat)(j:World)(i:Value)(wr:World):Prop:=∃k:Nat,k<=L.length/\i=.int .i64 k/\MpI wr K k (ZO (L.take k))/\One K j wr
def SeRel(L:List Pr)(s:ByteArray)(ps:List Int)(It base:Nat)(j:World)(v:Value)(wr:World):Prop:=∃(k i:Nat) (cs:List Nat),Run ps k i/\wr.heap[It]?=some (.stringIter s i)/\(ps.take k).map (ZO L)=cs.map some/\wr.ownsRow base 5 1 v k ((cs.map λc:Nat=>(c:Int)).map (Value.int .u8))/\Below base j wr
def Zu8(cs:List Nat):strOfNums (cs.map λc:Nat=>(c:Int))=⟨(cs.map Nat.toUInt8).toArray⟩:=by
 unfold strOfNums;rw[List.map_map];rfl
def ZrF(A:Option Addr)(c:Nat)(q:Int)(rs:List (Rw×Sl))(s:ByteArray)(ps:List Int)(hg:Good s ps)(L:List Pr)(hL:Zw rs=L)(bH:∀x∈L, -2147483648<=x.2/\x.2<2147483648)(hs:s.size<=100000)(hn:rs.length<=35184372089000)(w:World)(h:TbR w w.heap.size A rs)(hT:Zo w):
 Calls prog 302 #[.agg #[.slice A rs.length c,.int .i64 q],.string s] w (Zib (ecF (ZO L) ps 0) w):=by
 have HP:Hid (∀r w',ecF (ZO L) ps 0=r->Below w.heap.size w w'->Zib (ecF (ZO L) ps 0) w (.returned (ZgM r)) w'):=QQ λr w' h1 h2=>by rw[h1];exact⟨rfl,h2⟩
 generalize Zib (ecF (ZO L) ps 0) w=P at*;have ao:=λw1 (hb:Below w.heap.size w w1)=>Zlb A c rs hn w1 ((h.below hb).more hb.size);rw[show(rs.map (·.1)).flatMap prs=L from hL] at ao;unfold Zin at ao;have bA:=h.total;rw[<-ZhS,show(rs.map (·.1)).flatMap prs=L from hL] at bA;have b7:=hg.len;obtain⟨i0,hi,aQ,aP,aO⟩:=info_parts Zg8;have cq:=@run_makeMap prog;obtain⟨W2,X⟩:∃W2,W2=(w.alloc (.cells #[.slice A rs.length c,.int .i64 q] 216)).alloc (.cells #[.int .i64 0,.int .i64 0] 34):=⟨_,rfl⟩
 have aD:W2.heap.size=w.heap.size+1+1:=by rw[X];simp
 have aL:Below w.heap.size w W2:=by rw[X];exact((Below.refl _ _).alloc NL _).alloc (by simp) _
 have a6:W2.heap[w.heap.size+1]?=some (.cells #[.int .i64 0,.int .i64 0] 34 (0,0)):=by
  rw[X];have:=heap_alloc_new (w.alloc (.cells #[.slice A rs.length c,.int .i64 q] 216)) (.cells #[.int .i64 0,.int .i64 0] 34);simpa using this
 have aV:W2.heap[w.heap.size]?=some (.cells #[.slice A rs.length c,.int .i64 q] 216 (0,0)):=by
  rw[X,Below.heap_alloc _ _ _ (by simp)];exact heap_alloc_new w _
 have au:=ZaQ hT aL NL;have bj:=QQ aL;have b0:=QQ a6;have bQ:=QQ aV;have bM:=QQ aD;have bO:=QQ X;have bS:Hid (∀w1,Below w.heap.size w w1->Calls prog 229 #[.agg #[.slice A rs.length c]] w1 λe w'=>∃A c,e=.returned (.slice A L.length c)/\L.length<=c/\Reads w' w'.heap.size 2 A L.length (L.flatMap prV)/\Below w1.heap.size w1 w'):=QQ ao;clear aL a6 aV aD X ao h hL;go_enter func302,ntmps302
 go_wp2_with fail
 rw[<-bO.out];refine MR (Zia s ps hg (by omega) W2 au) λw1 C=>?_;have bu:=C.size;rw[bM.out] at bu;have bZ:=QQ (Zy b0 C);have bP:=QQ (Zy bQ C);have bm:=QQ (bj.trans (C.mono bj.size));have a8:=ZaQ au C NL;clear C au;go_wp2_with fail
 refine MR (Zed 0 0 _) λw2 W=>?_;have aw:=QQ (bm.trans ((Ze W).mono bm.size));have bY:=QQ (Zy bZ (Ze W));have aU:=Zy bP (Ze W);have au:=ZaQ a8 (Ze W) NL;have aD:=(Ze W).size;have s0:w2.cell? ⟨w.heap.size,0,none⟩=some (.slice A rs.length c):=by rw[cell_of_row _ _ 0 _ _ _ aU];rfl
 have s1:(w2.alloc (.map #[] 0)).cell? ⟨w.heap.size,0,none⟩=some (.slice A rs.length c):=(World.cell?_alloc_lt _ _ _ (by show w.heap.size<_;omega)).trans s0;clear W a8 aU s0;go_wp2_with (go_at_call 229;refine(bS _ (aw.trans (((Below.refl _ w2).alloc NL (.map #[] 0)).mono aw.size))).mono ?_;rintro e w3 ⟨A3,c3,rfl,cv,aW,aq⟩)
 have bR:Hid (PrsL w3 w3.heap.size A3 L):=QQ aW;have bg:=QQ ((MpI.made w2).below aq);have bi:=QQ (Ze aq);have bt:=aq.size;simp only[World.size_alloc] at bt;clear aW aq s1;go_loopw [27] (λi wr=>ZrY L w2.heap.size w3 i wr) (λi _=>L.length - (intOf i).toNat)
 case atStart=>exact⟨0,by omega,rfl,bg,One.of (Below.refl _ _)⟩
 case round=>
  obtain⟨k,hk,rfl,J,j⟩:=hrel;have cw:=J.lt;have ce:=j.size;by_cases aZ:k<L.length
  ·obtain⟨x,hx⟩:∃x,L[k]?=some x:=⟨_,List.getElem?_eq_getElem aZ⟩
   obtain⟨ad,rfl,aB,y0,y1,_⟩:=bR.pair hx;have n1:=bg.apart y0;rw[Zbm] at n1;have z0:=(j.cell (p:=ad.add (k*2)) (by rw[Zbm];exact aB) (by rw[Zbm];exact n1)).trans y0;have z1:=(j.cell (p:=⟨(ad.add (k*2)).block,(ad.add (k*2)).off+1,none⟩) (by show(ad.add (k*2)).block<_;rw[Zbm];exact aB) (by show(ad.add (k*2)).block≠_;rw[Zbm];exact n1)).trans y1;have aT:L.take (k+1)=L.take k++[x]:=by rw[List.take_add_one,hx];rfl
   have bd:=QQ aT;have am:=bH x (List.mem_of_getElem? hx);have bb:Below wr.heap.size wr (wr.alloc (.cells #[.int .i64 (x.1:Int),.int .i32 x.2] 272)):=(Below.refl _ _).alloc NL _;have I:=J.below bb;have V:=QQ (j.trans (One.of bb));have q0:(wr.alloc (.cells #[.int .i64 (x.1:Int),.int .i32 x.2] 272)).cell? ⟨wr.heap.size,0,none⟩=some (.int .i64 (x.1:Int)):=by rw[cell_of_row _ wr.heap.size 0 _ _ _ (heap_alloc_new wr _)];rfl
   have q1:(wr.alloc (.cells #[.int .i64 (x.1:Int),.int .i32 x.2] 272)).cell? ⟨wr.heap.size,1,none⟩=some (.int .i32 x.2):=by rw[cell_of_row _ wr.heap.size 1 _ _ _ (heap_alloc_new wr _)];rfl
   have hl:k<L.length:=aZ;clear aT n1 y0 y1 J;have ac:∀p,((ZO (L.take k) x.2).isSome=true\/¬x.1<256)->ZO (L.take k) p=ZO (L.take (k+1)) p:=λp hh=>by rw[bd.out];exact ZsY hh p
   have aj:=QQ ac;clear ac;by_cases an:(ZO (L.take k) x.2).isSome=true
   ·go_wp2_with (at_lookup;refine Zgd rfl _ _ rfl I rfl x.2 rfl am ?_;intro cc ah;clear ah)
    go_roundw
    case rel=>exact⟨k+1,by omega,by simp,(I.congr λp=>aj p (.inl an)).mono (by omega),V⟩
    case measure=>simp[intOf];omega
   ·have an:(ZO (L.take k) x.2).isSome=false:=by simpa using an
    by_cases hc:x.1<256
    ·have bE:(x.1:Int)<256:=by omega
     have be:=QQ (cd_new an hc);go_wp2_with (first
      |(at_lookup;refine Zgd rfl _ _ rfl I rfl x.2 rfl am ?_;intro cc ah;clear ah)
      |(at_mapUpdate;refine mp_put rfl _ _ _ rfl I rfl x.2 rfl am x.1 rfl hc (by omega) ?_;intro w4 aA a4))
     have bf:=QQ aA;have bN:=QQ a4;clear aA a4;go_wp2_with fail
     go_roundw
     case rel=>exact⟨k+1,by omega,by simp,bf.congr λp=>by rw[bd.out];exact be p,V.trans (One.grown bN)⟩
     case measure=>simp[intOf];omega
    ·have bE:¬((x.1:Int)<256):=by omega
     go_wp2_with (at_lookup;refine Zgd rfl _ _ rfl I rfl x.2 rfl am ?_;intro cc ah;clear ah)
     go_roundw
     case rel=>exact⟨k+1,by omega,by simp,(I.congr λp=>aj p (.inr hc)).mono (by omega),V⟩
     case measure=>simp[intOf];omega
  ·obtain rfl:k=L.length:=by omega
   rw[List.take_length] at J;have cr:¬((L.length:Int)<L.length):=by omega
   obtain⟨wo,rfl⟩:∃wo:World,wo=wr:=⟨_,rfl⟩
   have ak:Hid (Below w.heap.size w wo):=QQ ((aw.trans (bi.mono aw.size)).trans (j.below (by omega) (by omega)));have a5:wo.heap[w.heap.size+1]?=some (.cells #[.int .i64 0,.int .i64 0] 34 (0,0)):=by
    rw[j.block _ (by omega) (by omega),bi.block _ (by omega)];exact bY.out
   have bX:=QQ a5;have bU:=QQ J;have bG:Zo wo:=ZaQ hT ak NL;have ck:w.heap.size+1<wo.heap.size:=by omega
   clear j a5 J;go_wp2_with (first
    |(go_at_call 335;refine MR (ZkK s ps hg (by omega) _ bG) λw5 ai=>?_;have ax:=QQ ai;have ci:=ai.size;clear ai)
    |(at_make;refine wpList_make_own _ rfl _ _ 110 rfl w5.heap.size 5 i0 (.int .u8 0) 1 underlying110 hi aQ aP .i64 .i64 _ ps.length rfl rfl rfl (by rw[aO];omega) (by unfold maxLen;omega) NL ?_;intro D aa aI))
   have bV:=QQ (bU.below ax);have bh:=QQ (Zy bX ax);have b2:Hid (Below w5.heap.size w5 D):=QQ ((Below.refl _ _).grown aI NL (by simp));have ch:=aI.size;have Z:=aa.alloc (.stringIter s 0);have hit:=World.iter_heap D s 0;have bT:=QQ Z;have bW:=QQ hit;have aG:=hg.pre;clear aa aI Z hit;go_wp2_with fail
   go_loopw [12] (λv wr=>SeRel L s ps D.heap.size w5.heap.size w5 v wr) (λ_ wr=>s.size+1 - wr.iterPos D.heap.size)
   case atStart=>exact⟨0,0,[],Run.zero _,bW,rfl,bT,b2.alloc (by omega) _⟩
   case round=>
    obtain⟨k,i,cs,N,hK,U,O,ap⟩:=hrel;have bB:=N.le aG;have ca:=Zfg hK;have cg:=ap.size;have az:=ZcO hK;have aK:cs.length=k:=by have:=congrArg List.length U;simp at this;omega
    by_cases hk:k<ps.length
    ·obtain⟨p,n,Y,aE,cp,co,ct,cn,cm,_⟩:=N.step aG hk;have bw:=λty=>Zge (P:=prog) Y (by omega) wr D.heap.size hK ty;have C:=Lib.below_iterAt ap (k:=D.heap.size) (by omega) s (i+n);have J:=bV.below C;have aY: -2147483648<=p/\p<2147483648:=by omega
     have aF:ps[k]?=some p:=by rw[List.getElem?_eq_getElem hk,Y.2.2.1,List.getD_eq_getElem?_getD,List.getElem?_eq_getElem hk];rfl
     cases af:ZO L p with
     |none=>
      have aX:i=(Zd (ps.take k)).length:=N.2;have Hr:=QQ (ZmF (ZO L) k ps cs 0 p U aF af);rw[<-aX,Nat.zero_add] at Hr;have y:=Zy bh C;have g0:(wr.iterAt D.heap.size s (i+n)).cell? ⟨w.heap.size+1,0,none⟩=some (.int .i64 0):=by rw[cell_of_row _ _ 0 _ _ _ y];rfl
      have g1:(wr.iterAt D.heap.size s (i+n)).cell? ⟨w.heap.size+1,1,none⟩=some (.int .i64 0):=by rw[cell_of_row _ _ 1 _ _ _ y];rfl
      have g2:(wr.iterAt D.heap.size s (i+n)).frozen? ⟨w.heap.size+1,0,none⟩=false:=frozen_of_row _ _ 0 _ _ y;have g3:(wr.iterAt D.heap.size s (i+n)).frozen? ⟨w.heap.size+1,1,none⟩=false:=frozen_of_row _ _ 1 _ _ y;have bk:Hid (Below w.heap.size w (wr.iterAt D.heap.size s (i+n))):=QQ ((ak.trans (ax.mono ak.size)).trans (C.mono (by omega)));clear aX y U aF O aK Y;generalize wr.iterAt D.heap.size s (i+n)=Wi at*;go_wp2_with (at_lookup;refine mp_no rfl _ _ rfl J rfl p rfl aY af ?_;intro cc)
      refine bodyPost_ret (v:=.tuple #[.string ⟨#[]⟩,.agg #[.int .i64 6,.int .i64 i]]) (by simp[results,results302,go_sem,g0,g1]) rfl ?_;exact HP (.inr i) _ Hr ((bk.setCell (Nat.le_succ _) _).setCell (Nat.le_succ _) _)
     |some m=>
      obtain⟨bz,_⟩:=ZsX af;have bo:(m:Int)<256:=by omega
      have cj:IntKind.u8.wrap (m:Int)=m:=by simp[IntKind.wrap,IntKind.bits,IntKind.signed];omega
      have ab:=ZjD O hK (i+n);have bJ:=Lib.iterAt_heap wr D.heap.size s i (i+n) hK;have aS:(wr.iterAt D.heap.size s (i+n)).heap.size=wr.heap.size:=Lib.iterAt_size _ _ _ _;have ae:=cell_one_new (wr.iterAt D.heap.size s (i+n)) (.int .u8 (m:Int)) 5;rw[aS] at ae;have aR:w5.heap.size<=((wr.iterAt D.heap.size s (i+n)).alloc (.cells #[.int .u8 (m:Int)] 5)).heap.size:=by simp;omega
      have a7:=QQ (show(ps.take (k+1)).map (ZO L)=(cs++[m]).map some by rw[Y.snoc hk,List.map_append,U,List.map_append,List.map_cons,List.map_nil,af];rfl);have ba:=Below.heap_alloc (wr.iterAt D.heap.size s (i+n)) (.cells #[.int .u8 (m:Int)] 5) D.heap.size (by omega);rw[bJ] at ba;clear U aF Y aK;go_wp2_with (first
       |(at_lookup;refine mp_yes rfl _ _ rfl J rfl p rfl aY af ?_)
       |(at_builtin;refine wpList_append_own _ rfl _ _ 110 rfl w5.heap.size 5 i0 (.int .u8 0) 1 1 underlying110 hi aQ aP aO rfl (by decide) u12 k _ rfl (ab.alloc _) ⟨wr.heap.size,0,none⟩ 1 1 [.int .u8 (m:Int)] rfl rfl ae (by intro u hu;simp at hu;subst hu;rfl) (by unfold maxLen;omega) (by omega) aR ?_;intro v' w8 aH a3 _))
      have a9:=(a3.block D.heap.size (by simp;omega) (Zjj O hK)).trans ba;have ai:=Zad (C.alloc (by omega) (.cells #[.int .u8 (m:Int)] 5)) (ab.alloc _) a3 aR NL;refine⟨⟨k+1,i+n,cs++[m],aE,a9,a7,?_,ai⟩,?_⟩
      ·rw[List.map_append,List.map_append];exact aH
      ·rw[az,ZcO a9];omega
    ·have bC:k=ps.length:=by omega
     subst bC;obtain⟨bD,_,a2⟩:=N.end_ aG;have b9:=λty=>Lib.run_next_end_at (P:=prog) wr D.heap.size s i ty hK (by simp at a2;omega);rw[List.take_length] at U;have Hr:=QQ (ZmE (ZO L) ps cs 0 U);have y:=Zy bh ap;have g0:wr.cell? ⟨w.heap.size+1,0,none⟩=some (.int .i64 0):=by rw[cell_of_row _ _ 0 _ _ _ y];rfl
     have g1:wr.cell? ⟨w.heap.size+1,1,none⟩=some (.int .i64 0):=by rw[cell_of_row _ _ 1 _ _ _ y];rfl
     have g2:wr.frozen? ⟨w.heap.size+1,0,none⟩=false:=frozen_of_row _ _ 0 _ _ y;have g3:wr.frozen? ⟨w.heap.size+1,1,none⟩=false:=frozen_of_row _ _ 1 _ _ y;have aJ:=Zep (P:=prog) 110 9 5 underlying110 underlying5 underlying9 wr O;rw[Zu8] at aJ;have b1:Hid (Below w.heap.size w wr):=QQ ((ak.trans (ax.mono ak.size)).trans (ap.mono (by omega)));clear U y bD a2 aK O hK N bB az;go_wp2_with fail
     refine bodyPost_ret (v:=.tuple #[.string ⟨(cs.map Nat.toUInt8).toArray⟩,.agg #[.int .i64 0,.int .i64 0]]) (by simp[results,results302,go_sem,g0,g1]) rfl ?_;exact HP (.inl (cs.map Nat.toUInt8)) _ Hr ((b1.setCell (Nat.le_succ _) _).setCell (Nat.le_succ _) _)
open Go Go.RowKit
def Zo1{c:Nat}(q:c<=3):∀x∈Zz c, -2147483648<=x.2/\x.2<2147483648:=λx j=>by
 unfold Zz at j;obtain⟨n,hn,rfl⟩:=List.mem_map.1 j;have:=Zgq (Zo4 q (List.mem_range.1 hn));simp only;omega
def ZkP{c:Nat}(u:c<=3){A:Option Addr}{cp:Nat}{q:Int}{rs:List (Rw×Sl)}(b:ByteArray)(y:Zw rs=Zz c)(hb:b.size<=100000)(hn:rs.length<=4096)(w:World)(h:TbR w w.heap.size A rs)(hT:Zo w):
 Calls prog 150 #[.agg #[.slice A rs.length cp,.int .i64 q],.string b] w λe w'=>e=.returned (.tuple #[.string (tB (b.data.toList.map λx=>Zbj c x.toNat)),.agg #[.int .i64 0,.int .i64 0]])/\Below w.heap.size w w':=by
 have j:=ZrE A cp q rs b (Zz c) y (Zo1 u) hb (by omega) w h hT;unfold ZgJ at j;rw[dc_set] at j;exact j
def Zqb{c:Nat}(u:c<=3){A:Option Addr}{cp:Nat}{q:Int}{rs:List (Rw×Sl)}(s:ByteArray)(ps:List Int)(j:Good s ps)(y:Zw rs=Zz c)(hs:s.size<=100000)(hn:rs.length<=4096)(w:World)(h:TbR w w.heap.size A rs)(hT:Zo w):
 Calls prog 302 #[.agg #[.slice A rs.length cp,.int .i64 q],.string s] w λe w'=>e=.returned (ZgM (ecF (ZO (Zz c)) ps 0))/\Below w.heap.size w w':=
 ZrF A cp q rs s ps j (Zz c) y (Zo1 u) hs (by omega) w h hT
def aw_dec:tB (([193,194]:List UInt8).map λx=>Zbj 1 x.toNat)=⟨#[208,176,208,177]⟩:=by
 have h:Zd (([193,194]:List UInt8).map λx=>Zbj 1 x.toNat)=[208,176,208,177]:=by decide+kernel
 unfold tB;rw[h]
def aw_enc:ZgM (ecF (ZO (Zz 0)) [1028] 0)=.tuple #[.string ⟨#[]⟩,.agg #[.int .i64 6,.int .i64 0]]:=by
 have h:(match ecF (ZO (Zz 0)) [1028] 0 with| .inr 0=>true|_=>false)=true:=by decide+kernel
 have j:ecF (ZO (Zz 0)) [1028] 0=.inr 0:=by
  generalize ecF (ZO (Zz 0)) [1028] 0=r at h;split at h
  ·rfl
  ·cases h
 rw[j];rfl
def two_c{w:World}{K:Nat}{a b:Value}{T:TypeId}{fr:Nat×Nat}(h:w.heap[K]?=some (.cells #[a,b] T fr)):w.cell? ⟨K,0,none⟩=some a/\w.cell? ⟨K,1,none⟩=some b:=
 ⟨by rw[cell_of_row _ K 0 _ _ _ h];rfl,by rw[cell_of_row _ K 1 _ _ _ h];rfl⟩
def stw{w W j:World}(h:Hid (Below w.heap.size w W/\Zo W))(hb:Below W.heap.size W j):Hid (Below w.heap.size w j/\Zo j):=
 QQ ⟨h.1.trans (hb.mono h.1.size),ZaQ h.2 hb NL⟩
def al{w:World}(o:Obj):Below w.heap.size w (w.alloc o):=(Below.refl _ _).alloc NL _
def tb_bl{w w':World}{A:Option Addr}{rs:List (Rw×Sl)}(h:TbR w w.heap.size A rs)(hb:Below w.heap.size w w'):TbR w' w'.heap.size A rs:=(h.below hb).more hb.size
def tb_al{w:World}{A:Option Addr}{rs:List (Rw×Sl)}(h:TbR w w.heap.size A rs)(o:Obj):TbR (w.alloc o) (w.alloc o).heap.size A rs:=tb_bl h (al o)
def ZpN(w:World)(hT:Zo w)(a2:∀wx,Below w.heap.size w wx->Calls prog 179 #[] wx λe w'=>e=.returned (.bool true)/\Below wx.heap.size wx w')(a4:∀wx,Below w.heap.size w wx->Calls prog 303 #[] wx λe w'=>e=.returned (.bool true)/\Below wx.heap.size wx w'):
 Calls prog 253 #[] w λe w'=>e=.returned (.bool true)/\Below w.heap.size w w':=by
 have HP:Hid (∀w',Below w.heap.size w w'->(λe w'=>e=Ending.returned (.bool true)/\Below w.heap.size w w') (.returned (.bool true)) w'):=QQ λw' hb=>⟨rfl,hb⟩
 generalize (λ(e:Ending) (w':World)=>e=Ending.returned (.bool true)/\Below w.heap.size w w')=P at*;have C:=λW h=>SOf_1 W h;have D:=λW h=>SOf_0 W h;unfold ZbA at C D;have G0:Hid (Below w.heap.size w w/\Zo w):=QQ ⟨Below.refl _ _,hT⟩;go_enter func253,ntmps253
 go_wp2_with fail
 refine(C _ hT).mono ?_;rintro e w1 ⟨A1,c1,N,rfl,aI,ai,Z,Y,U⟩;have G1:=stw (stw G0 U) (al (.cells #[.slice A1 N.length c1,.int .i64 1] 216));have am:=QQ (tb_al Z (.cells #[.slice A1 N.length c1,.int .i64 1] 216));have ao:=QQ Y;clear Z Y U C;go_wp2_with fail
 have hd:=λhT=>ZkP (c:=1) (by decide) (A:=A1) (cp:=c1) (q:=1) ⟨#[193,194]⟩ ao (by decide) ai _ am hT;rw[show(ByteArray.mk #[193,194]).data.toList=[193,194] from rfl,aw_dec] at hd;refine MR (hd G1.2) λw2 O=>?_;clear hd;have G2:=stw (stw G1 O) (al (.cells #[.int .i64 0,.int .i64 0] 34));have F4:=QQ (heap_alloc_new w2 (.cells #[.int .i64 0,.int .i64 0] 34));clear O;go_wp2_with fail
 refine(D _ G2.2).mono ?_;rintro e w3 ⟨A3,c3,y,rfl,aH,ah,X,V,L⟩;have G3:=stw (stw G2 L) (al (.cells #[.slice A3 y.length c3,.int .i64 0] 216));have ad:=QQ (Zy (Zy F4 L) (al (.cells #[.slice A3 y.length c3,.int .i64 0] 216)));have ak:=QQ (tb_al X (.cells #[.slice A3 y.length c3,.int .i64 0] 216));have an:=QQ V;clear X V L D F4;go_wp2_with fail
 have hd:=λhT=>Zqb (c:=0) (by decide) (A:=A3) (cp:=c3) (q:=0) ⟨#[208,132]⟩ [1028] ⟨rfl,by decide⟩ an (by decide) ah _ ak hT;rw[aw_enc] at hd;refine MR (hd G3.2) λw4 J=>?_;clear hd;have G4:=stw (stw G3 J) (al (.cells #[.int .i64 6,.int .i64 0] 34));have ac:=QQ (Zy (Zy ad J) (al (.cells #[.int .i64 6,.int .i64 0] 34)));have F8:=QQ (heap_alloc_new w4 (.cells #[.int .i64 6,.int .i64 0] 34));clear J ad;go_wp2_with fail
 refine MR (a2 _ G4.1) λw5 u=>?_;have G5:=stw G4 u;have ab:=QQ (Zy ac u);have aa:=QQ (Zy F8 u);clear u ac F8;go_wp2_with fail
 refine MR (a4 _ G5.1) λw6 j=>?_;have G6:=stw G5 j;have aq:=QQ (Zy ab j);have ap:=QQ (Zy aa j);obtain⟨p0,p1⟩:=two_c aq.out;clear j ab aa;go_wp2_with fail
 refine MR (Zed 0 0 _) λw7 I=>?_;have G7:=stw G6 I;obtain⟨q0,q1⟩:=two_c (Zy ap I);clear I p0 p1;go_wp2_with fail
 exact HP _ G7.1
