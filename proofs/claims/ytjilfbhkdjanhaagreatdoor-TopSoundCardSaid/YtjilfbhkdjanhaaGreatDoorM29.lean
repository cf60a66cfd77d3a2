/- Lemmas for a statement on the tops; conditions: as each says. -/
import Derived.Lib.ConvBytes
import Derived.Test.YtjilfbhkdjanhaaGreatDoorM17
import Derived.Test.YtjilfbhkdjanhaaGreatDoorM28
set_option linter.all false
set_option maxRecDepth 100000
set_option maxHeartbeats 4000000
open Go.Proofs.Tryz
namespace Go.Proofs.YtjilfbhkdjanhaaGreatDoor
open Go Go.RowKit
def ZsU(w:World)(e:TypeId)(s:ByteArray)(j:Nat)(q:j<s.size):(Lib.bytesWorld w e s).frozen? ⟨w.heap.size,j,none⟩=false:=by
 have h:=Lib.bytesWorld_at_new w e s;have hs:s.size<=(Lib.bytesCells w e s).size:=by simp[Lib.bytesCells]
 simp only[World.frozen?,h];simp;omega
def ZsT(w:World)(e:TypeId)(s:ByteArray):Below w.heap.size w (Lib.bytesWorld w e s):=
 ⟨rfl,rfl,rfl,by rw[Lib.bytesWorld_size];omega,λk j=>Lib.bytesWorld_at_old w e s k j⟩
def ZbW(l:List UInt8)(k j:Nat):UInt8:=if j<k then Zgu (l.getD j 0) else l.getD j 0
def ZrZ(l:List UInt8)(w0:World)(i:Value)(wr:World):Prop:=∃k:Nat,k<=l.length/\i=.int .i64 k/\Hid (∀j,j<l.length->wr.cell? ⟨w0.heap.size,j,none⟩=some (u8V (ZbW l k j))/\wr.frozen? ⟨w0.heap.size,j,none⟩=false)/\Below w0.heap.size w0 wr
def Zpb(l:List UInt8)(k j:Nat)(h:j≠k):ZbW l (k+1) j=ZbW l k j:=by
 unfold ZbW;by_cases q:j<k
 ·rw[if_pos q,if_pos (by omega)]
 ·rw[if_neg q,if_neg (by omega)]
def ZpV(l:List UInt8)(hl:l.length<=100000)(w:World):
 Calls prog 219 #[.string (B l)] w λe w'=>e=.returned (.string (B (ZcU l)))/\Below w.heap.size w w':=by
 have N:=Zj l;have ae:=Lib.run_convert_string_bytes (P:=prog) w 9 110 5 (B l) underlying9 underlying110 underlying5;rw[N] at ae;have h0:∀j,j<l.length->(Lib.bytesWorld w 5 (B l)).cell? ⟨w.heap.size,j,none⟩=some (u8V (ZbW l 0 j))/\(Lib.bytesWorld w 5 (B l)).frozen? ⟨w.heap.size,j,none⟩=false:=by
  intro j I;refine⟨?_,ZsU w _ (B l) j (by rw[N];exact I)⟩;rw[Lib.bytesWorld_cell w _ (B l) j (by rw[N];exact I),Z9];rfl
 have af:=ZsT w 5 (B l);have ao:=Lib.bytesWorld_size w 5 (B l);generalize Lib.bytesWorld w 5 (B l)=W1 at*;generalize grownCap w l.length 0 5=cap at*;have H0:=QQ h0;clear h0;go_enter func219,ntmps219
 go_wp2_with fail
 go_loopw [10] (λi wr=>ZrZ l w i wr) (λi _=>l.length - (intOf i).toNat)
 case atStart=>exact⟨0,Nat.zero_le _,rfl,H0,af⟩
 case round=>
  obtain⟨k,hk,rfl,q,hb⟩:=hrel;have hz:=hb.size;by_cases L:k<l.length
  ·obtain⟨c0,f0⟩:=q.out k L;have J:ZbW l k k=l[k]:=by unfold ZbW;rw[if_neg (by omega)];simp[List.getD,L]
   rw[J] at c0;have hx:=l[k].toNat_lt;by_cases C:65<=l[k].toNat/\l[k].toNat<=90
   ·have W:Zgu l[k]=l[k]+32:=by unfold Zgu;rw[if_pos C]
    have V:((l[k]+32).toNat:Int)=(l[k].toNat:Int)+97 - 65:=by
     rw[UInt8.toNat_add];have:(32:UInt8).toNat=32:=rfl;omega
    unfold u8V at c0;obtain⟨U,O⟩:=C;have X:65<=(l[k].toNat:Int):=by omega
    have ad:(l[k].toNat:Int)<=90:=by omega
    generalize ab:l[k]+32=y at*;generalize l[k].toNat=xn at*;have Hv:=QQ W;have ah:=QQ V;clear W V ab J U O;go_wp2_with fail
    go_roundw
    case rel=>
     refine⟨k+1,by omega,by go_num,QQ ?_,hb.setCell (p:=⟨w.heap.size,k,none⟩) (Nat.le_refl _) _⟩;intro j I;refine⟨?_,by rw[World.frozen?_setCell];exact(q.out j I).2⟩;by_cases e:j=k
     ·subst e;rw[World.cell?_setCell_same _ _ _ c0];have hn:ZbW l (j+1) j=y:=by unfold ZbW;rw[if_pos (by omega),<-Hv.out];simp[List.getD,L]
      rw[hn];unfold u8V;rw[ah.out]
     ·rw[World.cell?_setCell_other _ _ _ _ (λh=>e (by injection h with _ h2 _;exact h2.symm)),(q.out j I).1,Zpb l k j e]
    case measure=>simp[intOf];omega
   ·have W:ZbW l (k+1) k=ZbW l k k:=by unfold ZbW;rw[if_pos (by omega),if_neg (by omega)];simp[List.getD,L,Zgu,C]
    have Hv:=QQ W;have D:Hid (∀j,j<l.length->wr.cell? ⟨w.heap.size,j,none⟩=some (u8V (ZbW l (k+1) j))/\wr.frozen? ⟨w.heap.size,j,none⟩=false):=QQ λj I=>by
     by_cases e:j=k
     ·subst e;rw[Hv.out];exact q.out j I
     ·rw[Zpb l k j e];exact q.out j I
    unfold u8V at c0;clear W;by_cases h1:65<=l[k].toNat
    ·have X:65<=(l[k].toNat:Int):=by omega
     have ad:¬(l[k].toNat:Int)<=90:=by omega
     generalize l[k].toNat=xn at*;clear C h1 J;go_wp2_with fail
     go_roundw
     case rel=>exact⟨k+1,by omega,by go_num,D,hb⟩
     case measure=>simp[intOf];omega
    ·have X:¬65<=(l[k].toNat:Int):=by omega
     generalize l[k].toNat=xn at*;clear C h1 J;go_wp2_with fail
     go_roundw
     case rel=>exact⟨k+1,by omega,by go_num,D,hb⟩
     case measure=>simp[intOf];omega
  ·have ac:k=l.length:=by omega
   subst ac;have hn:Zaz wr (w.heap.size+1) .u8 (some ⟨w.heap.size,0,none⟩) ((ZcU l).map λc:UInt8=>(c.toNat:Int)):=by
    refine⟨by simp,λ_=>⟨_,rfl,by simp,λj u hu=>?_⟩⟩;have Z:(⟨w.heap.size,0,none⟩:Addr).add j=⟨w.heap.size,j,none⟩:=by unfold Addr.add;split<;>simp_all
    simp only[ZcU,List.map_map,List.getElem?_map,Option.map_eq_some_iff] at hu;obtain⟨c,hc,rfl⟩:=hu;have I:j<l.length:=(List.getElem?_eq_some_iff.1 hc).1;rw[Z,(q.out j I).1];unfold ZbW u8V;rw[if_pos I];simp[List.getD,hc]
   have Y:=Zmk (P:=prog) 110 9 5 underlying110 underlying5 underlying9 wr hn cap;rw[Zpg,List.length_map,show(ZcU l).length=l.length by simp[ZcU]] at Y;clear hn q;go_wp2_with fail
   go_ret
   exact⟨rfl,hb⟩
def Zjt:Array Value:=#[.string ⟨#[108,97,116,105,110,49]⟩,.string ⟨#[105,115,111,45,56,56,53,57,45,49]⟩,.string ⟨#[108,97,116,105,110,45,49]⟩,.string ⟨#[107,111,105,56,45,114]⟩,.string ⟨#[107,111,105,56,114]⟩,.string ⟨#[]⟩,.string ⟨#[107,111,105,56,45,117]⟩,.string ⟨#[107,111,105,56,117]⟩,.string ⟨#[]⟩,.string ⟨#[99,112,56,54,54]⟩,.string ⟨#[105,98,109,56,54,54]⟩,.string ⟨#[]⟩,.string ⟨#[99,112,57,52,57]⟩,.string ⟨#[101,117,99,45,107,114]⟩,.string ⟨#[117,104,99]⟩,.string ⟨#[106,111,104,97,98]⟩,.string ⟨#[99,112,49,51,54,49]⟩,.string ⟨#[]⟩,.string ⟨#[98,105,103,53,45,104,107,115,99,115]⟩,.string ⟨#[98,105,103,53]⟩,.string ⟨#[]⟩,.string ⟨#[117,116,102,45,56]⟩,.string ⟨#[117,116,102,56]⟩,.string ⟨#[]⟩,.string ⟨#[117,116,102,45,49,54,108,101]⟩,.string ⟨#[117,116,102,49,54,108,101]⟩,.string ⟨#[]⟩,.string ⟨#[117,116,102,45,49,54,98,101]⟩,.string ⟨#[117,116,102,49,54,98,101]⟩,.string ⟨#[]⟩]
def Zq3(w:World):Calls prog 220 #[] w λe w'=>e=.returned (.agg Zjt)/\Below w.heap.size w w':=by
 go_enter func220,ntmps220
 go_wp2_with (first|(refine ZnG rfl 256 _ Zjt rfl (by kernel_rfl) ?_)|(refine wpList_store_row rfl 256 _ _ rfl w.heap.size Zjt rfl rfl _ _ (heap_alloc_new w _) (by kernel_rfl) (by rfl) (by kernel_rfl) ?_;rw[World.setRow_alloc_new]))
 refine bodyPost_ret (results_cell_row rfl _ _ w.heap.size _ _ _ _ rfl (heap_alloc_new w _) underlying256 rfl (by kernel_rfl)) rfl ⟨rfl,(Below.refl _ w).alloc (Nat.le_refl _) _⟩
def nmR0(k:Nat):List UInt8:=(ZaM.getD k []).getD 0 []
def nmR1(k:Nat):List UInt8:=(ZaM.getD k []).getD 1 []
def nmR2(k:Nat):List UInt8:=(ZaM.getD k []).getD 2 []
def Zq1(V:Value):Prop:=∀k:Nat,k<10->∀w,(Instr.index 256 V (.int .i64 k)).run prog w=.ok (.agg #[.string (B (nmR0 k)),.string (B (nmR1 k)),.string (B (nmR2 k))]) w
def Zq2(w:World):Calls prog 220 #[] w λe w'=>∃V,e=.returned V/\Zq1 V/\Below w.heap.size w w':=
 (Zq3 w).mono λ_ _ h=>⟨_,h.1,λk j w=>by
  rcases(show k=0\/k=1\/k=2\/k=3\/k=4\/k=5\/k=6\/k=7\/k=8\/k=9 by omega) with rfl|rfl|rfl|rfl|rfl|rfl|rfl|rfl|rfl|rfl
  all_goals kernel_rfl,h.2⟩
def ZuZ(l:List UInt8)(k:Nat)(j:k<10):ZaL l (ZaM.drop k) k=if l=nmR0 k\/l=nmR1 k\/l=nmR2 k then some k else ZaL l (ZaM.drop (k+1)) (k+1):=by
 rcases(show k=0\/k=1\/k=2\/k=3\/k=4\/k=5\/k=6\/k=7\/k=8\/k=9 by omega) with rfl|rfl|rfl|rfl|rfl|rfl|rfl|rfl|rfl|rfl
 all_goals
  simp only[ZaM,List.drop_zero,List.drop_succ_cons,ZaL,nmR0,nmR1,nmR2,List.getD_cons_zero,List.getD_cons_succ,List.mem_cons,List.not_mem_nil,or_false]
def NmRel(l:List UInt8)(w0:World)(i:Value)(wr:World):Prop:=∃k:Nat,k<=10/\i=.int .i64 k/\ZaL l ZaM 0=ZaL l (ZaM.drop k) k/\Below w0.heap.size w0 wr
def NmV(r:Option Nat):Value:=match r with|some c=>.tuple #[.int .i64 (c:Int),.bool true]|none=>.tuple #[.int .i64 0,.bool false]
def ZgR(r:Option Nat)(w0:World)(e:Ending)(w':World):Prop:=e=.returned (NmV r)/\Below w0.heap.size w0 w'
def idx3(a b c:ByteArray)(w:World):(Instr.index 255 (.agg #[.string a,.string b,.string c]) (.int .i64 0)).run prog w=.ok (.string a) w/\(Instr.index 255 (.agg #[.string a,.string b,.string c]) (.int .i64 1)).run prog w=.ok (.string b) w/\(Instr.index 255 (.agg #[.string a,.string b,.string c]) (.int .i64 2)).run prog w=.ok (.string c) w:=
 ⟨by kernel_rfl,by kernel_rfl,by kernel_rfl⟩
def Zq0(w:World):Calls prog 143 #[.string ⟨#[]⟩] w λe w'=>e=.returned (.tuple #[.int .i64 0,.bool false])/\Below w.heap.size w w':=by
 go_enter func143,ntmps143
 go_wp2_with fail
 go_ret2
 exact⟨rfl,Below.refl _ _⟩
def ZpT(l:List UInt8)(hl:l.length<=100000)(w:World):
 Calls prog 143 #[.string (B l)] w (ZgR (Zev l) w):=by
 by_cases h0:l=[]
 ·subst h0;exact(Zq0 w).mono λe w' h=>⟨h.1,h.2⟩
 have hn:Zev l=ZaL (ZcU l) ZaM 0:=by unfold Zev;rw[if_neg h0]
 have L:=λw=>ZpV l hl w;have ak:(B l).toList.isEmpty=false:=by
  have e:(B l).toList=l:=by rw[ByteArray.toList_eq,Z9]
  rw[e];cases l with
  |nil=>exact absurd rfl h0
  |cons a l=>rfl
 rw[hn];clear hn h0;have HP:Hid (∀r w',ZaL (ZcU l) ZaM 0=r->Below w.heap.size w w'->ZgR (ZaL (ZcU l) ZaM 0) w (.returned (NmV r)) w'):=QQ λr w' u y=>by rw[u];exact⟨rfl,y⟩
 generalize ZgR (ZaL (ZcU l) ZaM 0) w=P at*;generalize ZcU l=s at*;have N:=λw=>Zq2 w;go_enter func143,ntmps143
 go_wp2_with (first|(go_at_call 219;refine MR (L _) λw1 I=>?_)|(go_at_call 220;refine(N _).mono ?_;rintro e w2 ⟨V,rfl,hV,U⟩;have HV:=QQ hV;clear hV))
 have W:=I.trans (U.mono I.size);clear I U N L;go_loopw [13] (λi wr=>NmRel s w i wr) (λi _=>10 - (intOf i).toNat)
 case atStart=>exact⟨0,by omega,rfl,rfl,W⟩
 case round=>
  obtain⟨k,hk,rfl,he,hb⟩:=hrel;by_cases O:k<10
  ·have q:=ZuZ s k O;have aj:=HV.out k O;generalize nmR0 k=a at*;generalize nmR1 k=b at*;generalize nmR2 k=c at*;have Y:=idx3 (B a) (B b) (B c);have ah:=λw=>(Y w).1;have af:=λw=>(Y w).2.1;have ae:=λw=>(Y w).2.2;clear Y;have Z:∀x:List UInt8,((B x).toList==(B s).toList)=decide (s=x):=λx=>by
    rw[ByteArray.toList_eq,ByteArray.toList_eq,Z9,Z9];by_cases h:s=x
    ·rw[h];simp
    ·rw[beq_eq_false_iff_ne.2 (λe=>h e.symm)];simp[h]
   have qa:=Z a;have qb:=Z b;have X:=Z c;have D:Hid (Below w.heap.size w (wr.alloc (.cells #[.string (B a),.string (B b),.string (B c)] 255))):=QQ (hb.alloc hb.size _);clear Z;by_cases u:s=a
   ·have j:ZaL s ZaM 0=some k:=by rw[he,q,if_pos (.inl u)]
    have C:=QQ j;rw[decide_eq_true u] at qa;clear qb X he j q u;go_wp2_with fail
    refine wp_loop_rounds 4 ?_;rw[rounds_succ];go_wp2_with fail
    exact HP.out _ _ C.out D.out
   rw[decide_eq_false u] at qa;by_cases y:s=b
   ·have j:ZaL s ZaM 0=some k:=by rw[he,q,if_pos (.inr (.inl y))]
    have C:=QQ j;rw[decide_eq_true y] at qb;clear X he j q u y;go_wp2_with fail
    refine wp_loop_rounds 4 ?_;rw[rounds_succ];go_wp2_with fail
    rw[rounds_succ];go_wp2_with fail
    exact HP.out _ _ C.out D.out
   rw[decide_eq_false y] at qb;by_cases J:s=c
   ·have j:ZaL s ZaM 0=some k:=by rw[he,q,if_pos (.inr (.inr J))]
    have C:=QQ j;rw[decide_eq_true J] at X;clear he j q u y J;go_wp2_with fail
    refine wp_loop_rounds 4 ?_;rw[rounds_succ];go_wp2_with fail
    rw[rounds_succ];go_wp2_with fail
    rw[rounds_succ];go_wp2_with fail
    exact HP.out _ _ C.out D.out
   rw[decide_eq_false J] at X;have j:ZaL s ZaM 0=ZaL s (ZaM.drop (k+1)) (k+1):=by rw[he,q,if_neg (λh=>h.elim u λh=>h.elim y J)]
   have C:=QQ j;clear he j q u y J;go_wp2_with fail
   refine wp_loop_rounds 4 ?_;rw[rounds_succ];go_wp2_with fail
   rw[rounds_succ];go_wp2_with fail
   rw[rounds_succ];go_wp2_with fail
   rw[rounds_succ];go_wp2_with fail
   go_roundw
   case rel=>exact⟨k+1,by omega,by go_num,C.out,D.out⟩
   case measure=>simp[intOf];omega
  ·obtain rfl:k=10:=by omega
   have j:ZaL s ZaM 0=none:=by rw[he];rfl
   have C:=QQ j;clear he j;go_wp2_with fail
   exact HP.out _ _ C.out hb
open Go Go.RowKit Go.Maps
def ZfL(w:World):Calls prog 145 #[] w λe w'=>e=.returned (.slice (some ⟨w.heap.size,0,none⟩) 7 7)/\w'=w.alloc (.cells #[.int .i64 4,.int .i64 6,.int .i64 5,.int .i64 1,.int .i64 2,.int .i64 3,.int .i64 0] 23):=by
 go_enter func145,ntmps145
 go_wp2_with fail
 go_ret
 exact⟨rfl,rfl⟩
def Zih(c:Nat)(w:World):Calls prog 14 #[.int .i64 c] w λe w'=>e=.returned (.bool (decide (c<=6)))/\w=w':=by
 by_cases h:c<=6
 ·have j:(c:Int)<=6:=by omega
  rw[decide_eq_true h];go_enter func14,ntmps14
  go_wp2_with fail
  go_ret
  exact⟨rfl,rfl⟩
 ·have j:¬(c:Int)<=6:=by omega
  rw[decide_eq_false h];go_enter func14,ntmps14
  go_wp2_with fail
  go_ret
  exact⟨rfl,rfl⟩
def MpW.same{w w':World}{b n:Nat}{M:Int->Option Int}(h:MpW w b n M)(e:w'.heap[b]?=w.heap[b]?):MpW w' b n M:=by
 obtain⟨D,⟨y,cl,u,q⟩,j⟩:=h;exact⟨D,⟨y,cl,e.trans u,q⟩,j⟩
section
variable {ops:Array Oper} {rest:List Oper} {o:Oper} {a:Act} {Q:Exit->Act->World->Prop} {w:World} {b n:Nat} {M:Int->Option Int}
theorem mw_yes(D:o.guard=none)(m x:Operand)(j:o.op=Op.lookup 300 m x true)(h:MpW w b n M)(C:a.eval m=.map (some b))(p:Int)(u:a.eval x=.int .i32 p)(y: -2147483648<=p/\p<2147483648){k:Int}(q:M p=some k)
 (hK:wpList prog ops Q rest (a.put o.dst (.tuple #[.int .i64 k,.bool true])) w):
 wpList prog ops Q (o::rest) a w:=
 ZnF D m x j h C p u y λc I=>by rw[I k q,q];exact hK
theorem mw_no(D:o.guard=none)(m x:Operand)(j:o.op=Op.lookup 300 m x true)(h:MpW w b n M)(y:a.eval m=.map (some b))(p:Int)(q:a.eval x=.int .i32 p)(u: -2147483648<=p/\p<2147483648)(C:M p=none)
 (hK:∀c:Int,wpList prog ops Q rest (a.put o.dst (.tuple #[.int .i64 c,.bool false])) w):
 wpList prog ops Q (o::rest) a w:=
 ZnF D m x j h y p q u λc _=>by rw[C];exact hK c
end
def scW(c:Nat)(p:Int)(b:Bool):Int:=ZcH c p+if b&&Zdq p then -3 else 0
def ScRel(c:Nat)(s:ByteArray)(ps:List Int)(K It:Nat)(W3:World)(sc j:Value)(wr:World):Prop:=
 ∃(k i n:Nat) (z:Int) (b:Bool) (M:Int->Option Int),Run ps k i/\sc=.int .i64 z/\j=.bool b/\Hid (ZcE c ps false=z+ZcE c (ps.drop k) b)/\ -11*(k:Int)<=z/\z<=11*(k:Int)/\wr.heap[It]?=some (.stringIter s i)/\MpW wr K n M/\n<=k/\Hid (∀p v,M p=some v->v=ZcH c p)/\Below K W3 wr
def ScV(r:Option Int):Value:=match r with|some z=>.tuple #[.int .i64 z,.bool true]|none=>.tuple #[.int .i64 0,.bool false]
def Zln(r:Option Int)(w0:World)(e:Ending)(w':World):Prop:=e=.returned (ScV r)/\Below w0.heap.size w0 w'
def Zwo(c:Nat)(ps:List Int)(k:Nat)(j:k<ps.length)(b:Bool):ZcE c (ps.drop k) b=scW c ps[k] b+ZcE c (ps.drop (k+1)) (Zdv ps[k]):=by
 rw[List.drop_eq_getElem_cons j,ZcE];rfl
def ZrN(c:Nat)(u:6<c)(l:List UInt8)(w:World):
 Calls prog 180 #[.int .i64 c,.string (B l)] w λe w'=>e=.returned (.tuple #[.int .i64 0,.bool false])/\Below w.heap.size w w':=by
 have j:=λw=>Zih c w;rw[decide_eq_false (by omega)] at j;go_enter func180,ntmps180
 go_wp2_with (go_at_call 14;refine(j _).mono ?_;rintro e q ⟨rfl,rfl⟩)
 go_ret2
 exact⟨rfl,Below.refl _ _⟩
def ZrL(c:Nat)(J:c<=6)(l:List UInt8)(I:l.length<=100000)(n:Nat)(hd:ZZ c l=.inr n)(w:World)(hG:Grd w):
 Calls prog 180 #[.int .i64 c,.string (B l)] w λe w'=>e=.returned (.tuple #[.int .i64 0,.bool false])/\Below w.heap.size w w':=by
 have q:=λw=>Zih c w;rw[decide_eq_true J] at q;have j:=λw hG=>Zh7 c (by omega) l I w hG;rw[hd] at j;unfold Z6 D2V at j;simp only at j;have y:=λw=>ZV 2 n (by decide) w;clear hd;go_enter func180,ntmps180
 go_wp2_with (first
  |(go_at_call 14;refine(q _).mono ?_;rintro e D ⟨rfl,rfl⟩)
  |(go_at_call 91;refine MR (j _ hG) λD u=>?_)
  |(go_at_call 8;refine MR (y _) λL C=>?_))
 go_ret2
 exact⟨rfl,u.trans ((Ze C).mono u.size)⟩
def ZrM(c:Nat)(hc:c<=6)(l:List UInt8)(hl:l.length<=100000)(ps:List Int)(hd:ZZ c l=.inl ps)(bd:(Zd ps).length<=1000000)(w:World)(hG:Grd w):
 Calls prog 180 #[.int .i64 c,.string (B l)] w λe w'=>e=.returned (.tuple #[.int .i64 (ZcE c ps false),.bool true])/\Below w.heap.size w w':=by
 have J:=λw=>Zih c w;rw[decide_eq_true hc] at J;have W:=λw hG=>Zh7 c (by omega) l hl w hG;rw[hd] at W;unfold Z6 D2V at W;simp only at W;have ay:=λw=>ZG 0 0 rfl w;have aq:=Ztr l ps hd;have hg:Good (B (Zd ps)) ps:=Zm5 aq;have ah:=hg.pre;have bc:=Zj (Zd ps);have aY:=(Zbp ps).1;have bi:=@run_makeMap prog;have aF:=λp w=>Zp6 c hc p w;clear hd aq;generalize B (Zd ps)=s at*;go_enter func180,ntmps180
 go_wp2_with (first
  |(go_at_call 14;refine(J _).mono ?_;rintro e w1 ⟨rfl,rfl⟩)
  |(go_at_call 91;refine MR (W _ hG) λw1 C=>?_)
  |(go_at_call 8;refine MR (ay _) λj az=>?_))
 have aB:Below w.heap.size w j:=C.trans ((Ze az).mono C.size);have hit:=World.iter_heap (j.alloc (.map #[] 0)) s 0;have aK:=MpW.made j;clear C az W ay J;have am:(j.alloc (.map #[] 0)).heap.size=j.heap.size+1:=by simp
 rw[am] at hit;go_loopw [9,10] (λa b wr=>ScRel c s ps j.heap.size (j.heap.size+1) (j.alloc (.map #[] 0)) a b wr) (λ_ _ wr=>s.size+1 - wr.iterPos (j.heap.size+1))
 case atStart=>
  refine⟨0,0,0,0,false,λ_=>none,Run.zero _,rfl,rfl,QQ (by simp),by omega,by omega,hit,?_,Nat.le_refl _,QQ (λ_ _ h=>by cases h),?_⟩
  ·exact aK.below ((Below.refl _ _).alloc (Nat.le_refl _) _)
  ·exact(Below.refl _ _).alloc (by rw[am];omega) _
 case round=>
  obtain⟨k,i,n,z,b,M,u,rfl,rfl,N,bb,ba,hK,hM,hn,aa,hb⟩:=hrel;have au:=u.le ah;have a4:=Zfg hK;have a6:=hb.size;have V:=ZcO hK;by_cases hk:k<ps.length
  ·obtain⟨p,m,ap,O,bh,bg,bk,bf,be,_⟩:=u.step ah hk;have aI:=λty=>Zge (P:=prog) ap (by omega) wr (j.heap.size+1) hK ty;have C:=Lib.below_iterAt hb (k:=j.heap.size+1) (by omega) s (i+m);have aJ:ps[k]=p:=by rw[ap.2.2.1,List.getD_eq_getElem?_getD,List.getElem?_eq_getElem hk];rfl
   have af: -2147483648<=p/\p<2147483648:=by omega
   have D:=hM.same (Lib.iterAt_other wr (j.heap.size+1) j.heap.size s (i+m) (by omega));have ai:(wr.iterAt (j.heap.size+1) s (i+m)).heap[j.heap.size+1]?=some (.stringIter s (i+m)):=Lib.iterAt_heap wr (j.heap.size+1) s i (i+m) hK;have ae:=Zwo c ps k hk b;rw[aJ] at ae;have ac:ZcE c ps false=(z+scW c p b)+ZcE c (ps.drop (k+1)) (Zdv p):=by rw[N.out,ae];omega
   have ab:=QQ ac;have an:=Zxw c p;have aG:=λw=>aF p w;have ax:=λw=>ZkM p w;have J:=λw=>ZkN p w;have I:scW c p b=ZcH c p+if b&&Zdq p then -3 else 0:=rfl
   have aj:Hid (∀q v,(if q=p then some (ZcH c p) else M q)=some v->v=ZcH c q):=QQ λq v h=>by
    by_cases e:q=p
    ·rw[if_pos e] at h;injection h with h;rw[<-h,e]
    ·rw[if_neg e] at h;exact aa.out q v h
   have a7:(wr.iterAt (j.heap.size+1) s (i+m)).heap.size=wr.heap.size:=by simp[World.iterAt]
   generalize wr.iterAt (j.heap.size+1) s (i+m)=Wi at*;generalize ao:ZcH c p=v at*;have aP:=QQ ao;clear ao ae ac;generalize aO:Zdq p=cp at*;generalize aL:Zdv p=lp at*;have aH: -1000<=v/\v<=1000:=by omega
   have U:∀wx:World,wx.heap[j.heap.size+1]?=some (.stringIter s (i+m))->s.size+1 - wx.iterPos (j.heap.size+1)<s.size+1 - i:=λwx h=>by rw[ZcO h];omega
   have Y:=QQ U;have ad:=QQ V;clear aO aL U hK V;have aX:=an.1;have aW:=an.2;cases L:M p with
   |some v2=>
    obtain rfl:v2=v:=by rw[aa.out p v2 L,aP.out]
    have a2:∀k,M p=some k->v2=k:=λk h=>by rw[L] at h;injection h
    have ak:=QQ L;clear L;cases b<;>cases cp
    all_goals
     have y:scW c p _=_:=I;simp only[Bool.and_true,Bool.and_false,Bool.false_eq_true,if_false,if_true] at y;rw[y] at ab;clear I y;go_wp2_with (first
      |(at_lookup;refine mw_yes rfl _ _ rfl D rfl p rfl af ak.out ?_)
      |(go_at_call 251;refine(ax _).mono ?_;rintro e w6 ⟨rfl,rfl⟩)
      |(go_at_call 252;refine(J _).mono ?_;rintro e w6 ⟨rfl,rfl⟩))
     go_roundw
     case rel=>
      refine⟨k+1,i+m,n,_,_,M,O,rfl,rfl,QQ ?_,?_,?_,ai,D,by omega,aa,C⟩
      ·rw[ab.out];omega
      ·omega
      ·omega
     case measure=>rw[ad.out];exact Y.out _ ai
   |none=>
    have ak:=QQ L;clear L;cases b<;>cases cp
    all_goals
     have y:scW c p _=_:=I;simp only[Bool.and_true,Bool.and_false,Bool.false_eq_true,if_false,if_true] at y;rw[y] at ab;clear I y;go_wp2_with (first
      |(at_lookup;refine mw_no rfl _ _ rfl D rfl p rfl af ak.out ?_;intro cc)
      |(go_at_call 250;refine MR (aG _) λw4 X=>?_;have aU:=QQ (C.trans (X.mono (Nat.le_trans (by omega) C.size)));have a9:=X.size;have aR:=QQ (D.below X);have aS:=QQ ((X.block _ (by omega)).trans ai);clear X)
      |(at_mapUpdate;refine mw_put rfl _ _ _ rfl aR.out rfl p rfl af v rfl aH (by omega) ?_;intro w5 aA Z;have aQ:=QQ aA;have a8:=Z.size;have aT:=QQ (aU.grown Z (by omega) (by simp));have aC:=QQ ((Z.block _ (by omega) (by simp)).trans aS.out);clear aA Z)
      |(go_at_call 251;refine(ax _).mono ?_;rintro e w6 ⟨rfl,rfl⟩)
      |(go_at_call 252;refine(J _).mono ?_;rintro e w6 ⟨rfl,rfl⟩))
     go_roundw
     case rel=>
      refine⟨k+1,i+m,n+1,_,_,_,O,rfl,rfl,QQ ?_,?_,?_,aC.out,aQ.out,by omega,aj,aT.out⟩
      ·rw[ab.out];omega
      ·omega
      ·omega
     case measure=>rw[ad.out];exact Y.out _ aC.out
  ·obtain rfl:k=ps.length:=by have:=u.1;omega
   obtain⟨aN,_,aw⟩:=u.end_ ah;have aZ:=λty=>Lib.run_next_end_at (P:=prog) wr (j.heap.size+1) s i ty hK (by simp at aw;omega);have hz:ZcE c ps false=z:=by
    have:=N.out;rw[List.drop_length,ZcE] at this;omega
   have Hz:=QQ hz;clear hz N hM aa aN aw u au V;go_wp2_with fail
   go_ret2
   exact⟨ZeE Hz.symm rfl,aB.trans ((((Below.refl _ j).alloc (Nat.le_refl _) _).trans hb).mono aB.size)⟩
def ZiP(f:UInt8->UInt8->List Int)(y:∀a b,(Zd (f a b)).length<=8):∀(l:List UInt8) (i:Nat) (ps:List Int),Zr f l i=.inl ps->(Zd ps).length<=4*l.length
 |[],_,ps,h=>by rw[Zr] at h;injection h with h;subst h;simp[Zb0]
 |[a],i,ps,h=>by
  rw[Zr] at h;split at h
  ·injection h with h;subst h
   have:=(Zbp [(a.toNat:Int)]).2;simpa using this
  ·cases h
 |a::b::q,i,ps,h=>by
  rw[Zr] at h;split at h
  ·have u:=ZiP f y (b::q) (i+1);generalize Zr f (b::q) (i+1)=r at*;cases r with
   |inr n=>cases h
   |inl j=>
    injection h with h;subst h
    have D:=u j rfl;have C:=ZcM (a.toNat:Int);simp only[List.cons_append,List.nil_append,Za9,List.length_append,List.length_cons] at*;omega
  ·split at h
   ·cases h
   ·have u:=ZiP f y q (i+2);generalize Zr f q (i+2)=r at*;cases r with
    |inr n=>cases h
    |inl j=>
     injection h with h;subst h
     have D:=u j rfl;have C:=y a b;simp only[Zgy,List.length_append,List.length_cons] at*;omega
def Ze3{c:Nat}(l:List UInt8)(ps:List Int)(h:ZZ c l=.inl ps):(Zd ps).length<=4*l.length:=by
 unfold ZZ at h;split at h
 ·injection h with h;subst h
  have:=(Zbp (l.map λx=>Zbj c x.toNat)).2;simpa using this
 ·split at h
  ·exact ZiP _ (λa b=>by
    have u:=Zo2 c a b;have y:=(Zbp (sg2 c a b)).2;omega) l 0 ps h
  ·split at h
   ·rcases Zd9 l with⟨q,j,e⟩|⟨n,j,e⟩
    ·rw[e] at h;injection h with h;subst h;rw[Zpu j];omega
    ·rw[e] at h;cases h
   ·rcases ZgA (c==9) l with⟨q,j,e⟩|⟨n,j,e⟩
    ·rw[e] at h;injection h with h;subst h
     have u:=j.1;have y:=(Zfi (c==9) q).1;have D:=(Zbp q).2;have C:l.length=(Zx (c==9) q).length:=by
      have:=congrArg List.length u;simpa using this
     omega
    ·rw[e] at h;cases h
def ZrK(c:Nat)(l:List UInt8)(q:l.length<=100000)(w:World)(hG:Grd w):
 Calls prog 180 #[.int .i64 c,.string (B l)] w (Zln (Zgr c l) w):=by
 unfold Zgr;by_cases j:c<=6
 ·rw[if_pos j];cases hd:ZZ c l with
  |inl ps=>exact ZrM c j l q ps hd (by have:=Ze3 l ps hd;omega) w hG
  |inr n=>exact ZrL c j l q n hd w hG
 ·rw[if_neg j];exact ZrN c (by omega) l w
noncomputable def gstep(l:List UInt8)(c:Nat)(g:Int×Nat×Bool):Int×Nat×Bool:=match Zgr c l with|some s=>if g.1<s then(s,c,true) else g|none=>g
def Zuk(l:List UInt8)(cs:List Nat)(k:Nat)(j:k<cs.length)(g:Int×Nat×Bool):Z5 l (cs.drop k) g=Z5 l (cs.drop (k+1)) (gstep l cs[k] g):=by
 rw[List.drop_eq_getElem_cons j,Z5];rfl
def GsRel(l:List UInt8)(cs:List Nat)(w0:World)(u q j i:Value)(wr:World):Prop:=
 ∃(k:Nat) (g:Int×Nat×Bool),k<=cs.length/\i=.int .i64 k/\u=.int .i64 g.1/\j=.int .i64 (g.2.1:Nat)/\q=.bool g.2.2/\Hid (Z5 l cs (0,0,false)=Z5 l (cs.drop k) g)/\Below w0.heap.size w0 wr
def Zqy(l:List UInt8)(X:l.length<=100000)(K cp:Nat)(cs:List Nat)(hn:cs.length<=100)(w:World)(hG:Grd w)(hK:K<w.heap.size)(y:∀(j:Nat) (x:Nat),cs[j]?=some x->w.cell? ⟨K,j,none⟩=some (.int .i64 (x:Int))):
 Calls prog 144 #[.string (B l),.slice (some ⟨K,0,none⟩) cs.length cp] w λe w'=>e=.returned (.tuple #[.int .i64 ((Z5 l cs (0,0,false)).2.1:Nat),.bool (Z5 l cs (0,0,false)).2.2])/\Below w.heap.size w w':=by
 have HC:=QQ y;clear y;go_enter func144,ntmps144
 go_wp2_with fail
 go_loopw [6,7,8,15] (λb f g i wr=>GsRel l cs w b f g i wr) (λ_ _ _ i _=>cs.length - (intOf i).toNat)
 case atStart=>exact⟨0,(0,0,false),Nat.zero_le _,rfl,rfl,rfl,rfl,QQ (by simp),Below.refl _ _⟩
 case round=>
  obtain⟨k,g,hk,rfl,rfl,rfl,rfl,D,hb⟩:=hrel;obtain⟨J,N,L⟩:=g;by_cases U:k<cs.length
  ·have q:=Zuk l cs k U (J,N,L);have Y:=(hb.cell (p:=⟨K,k,none⟩) hK).trans (HC.out k cs[k] (List.getElem?_eq_getElem U));have u:=λw hG=>ZrK cs[k] l X w hG;unfold gstep at q;unfold Zln at u;generalize Zgr cs[k] l=r at*;generalize cs[k]=c at*;have I:=hG.below hb;cases r with
   |none=>
    have V:Hid (Z5 l cs (0,0,false)=Z5 l (cs.drop (k+1)) (J,N,L)):=QQ (by rw[D.out,q]);clear q D;unfold ScV at u;simp only at u;go_wp2_with (go_at_call 180;refine MR (u _ I) λW C=>?_)
    go_roundw
    case rel=>exact⟨k+1,(J,N,L),by omega,by go_num,rfl,rfl,rfl,V,hb.trans (C.mono hb.size)⟩
    case measure=>simp[intOf];omega
   |some z=>
    unfold ScV at u;simp only at u q;by_cases O:J<z
    ·rw[if_pos O] at q;have V:Hid (Z5 l cs (0,0,false)=Z5 l (cs.drop (k+1)) (z,c,true)):=QQ (by rw[D.out,q]);clear q D;go_wp2_with (go_at_call 180;refine MR (u _ I) λW C=>?_)
     go_roundw
     case rel=>exact⟨k+1,(z,c,true),by omega,by go_num,rfl,rfl,rfl,V,hb.trans (C.mono hb.size)⟩
     case measure=>simp[intOf];omega
    ·rw[if_neg O] at q;have V:Hid (Z5 l cs (0,0,false)=Z5 l (cs.drop (k+1)) (J,N,L)):=QQ (by rw[D.out,q]);clear q D;go_wp2_with (go_at_call 180;refine MR (u _ I) λW C=>?_)
     go_roundw
     case rel=>exact⟨k+1,(J,N,L),by omega,by go_num,rfl,rfl,rfl,V,hb.trans (C.mono hb.size)⟩
     case measure=>simp[intOf];omega
  ·obtain rfl:k=cs.length:=by omega
   have O:Z5 l cs (0,0,false)=(J,N,L):=by rw[D.out,List.drop_length,Z5]
   have Z:=QQ O;clear O D;go_wp2_with fail
   go_ret2
   rw[Z.out];exact⟨rfl,hb⟩
def Zgi{k fb j:Value}{det:Value}{T:TypeId}(w:World){u q:World}(y:Below (w.alloc (.cells #[k,fb,det,j] T)).heap.size (w.alloc (.cells #[k,fb,det,j] T)) u)(D:Below u.heap.size u q):
 q.cell? ⟨w.heap.size,1,none⟩=some fb/\q.cell? ⟨w.heap.size,2,none⟩=some det:=by
 have e:=heap_alloc_new w (.cells #[k,fb,det,j] T);have I:u.heap[w.heap.size]?=some (.cells #[k,fb,det,j] T (0,0)):=by rw[y.block _ (by simp),e]
 have C:q.heap[w.heap.size]?=some (.cells #[k,fb,det,j] T (0,0)):=by rw[D.block _ (by have:=ZY y;omega),I]
 exact⟨by rw[cell_of_row _ _ 1 _ _ _ C];rfl,by rw[cell_of_row _ _ 2 _ _ _ C];rfl⟩
def Zgj{K:Nat}{a b:Value}{j q:World}(y:j.cell? ⟨K,1,none⟩=some a)(u:j.cell? ⟨K,2,none⟩=some b)(hb:Below j.heap.size j q):
 q.cell? ⟨K,1,none⟩=some a/\q.cell? ⟨K,2,none⟩=some b:=
 ⟨by rw[hb.cell (World.block_lt_of_cell? _ _ y),y],by rw[hb.cell (World.block_lt_of_cell? _ _ u),u]⟩
def ZdJ(l:List UInt8)(j:l.length<=100000)(w:World)(hT:Zo w):Calls prog 100 #[.string (B l)] w λe w'=>e=.returned (.bool (Zcr l))/\Below w.heap.size w w':=by
 unfold Zcr;rcases Zd9 l with⟨ps,h,e⟩|⟨n,h,e⟩
 ·rw[e];exact Zst (B l) ps h (by rw[Zj];omega) w hT
 ·rw[e];exact Zss (B l) n h (by rw[Zj];omega) w hT
def Zq8(l:List UInt8)(u:l.length<=100000)(w:World)(hG:Grd w):
 Calls prog 144 #[.string (B l),.slice (some ⟨w.heap.size,0,none⟩) 7 7] (w.alloc (.cells #[.int .i64 4,.int .i64 6,.int .i64 5,.int .i64 1,.int .i64 2,.int .i64 3,.int .i64 0] 23)) λe w'=>e=.returned (.tuple #[.int .i64 ((Z5 l Zco (0,0,false)).2.1:Nat),.bool (Z5 l Zco (0,0,false)).2.2])/\Below (w.alloc (.cells #[.int .i64 4,.int .i64 6,.int .i64 5,.int .i64 1,.int .i64 2,.int .i64 3,.int .i64 0] 23)).heap.size (w.alloc (.cells #[.int .i64 4,.int .i64 6,.int .i64 5,.int .i64 1,.int .i64 2,.int .i64 3,.int .i64 0] 23)) w':=
 Zqy l u w.heap.size 7 Zco (by decide) _ (hG.alloc _) (by simp) λj x q=>by
  rw[cell_of_row _ _ j _ _ _ (heap_alloc_new w _)];have:(Zco.map λn:Nat=>Value.int .i64 (n:Int))[j]?=some (.int .i64 (x:Int)):=by rw[List.getElem?_map,q];rfl
  rw[<-this];simp[Zco]
def ZrC(l d:List UInt8)(hl:l.length<=100000)(hd:d.length<=100000)(k ad:Int)(fb:Nat)(det:Bool)(w:World)(hG:Grd w):
 Calls prog 89 #[.string (B l),.string (B d),.agg #[.int .i64 k,.int .i64 fb,.bool det,.int .i64 ad]] w λe w'=>e=.returned (.int .i64 (Zde l d fb det:Nat))/\Below w.heap.size w w':=by
 have O:=λw hT=>ZdJ l hl w hT;have D:=λw=>ZpT d hd w;have U:=λw hG=>Zq8 l hl w hG;have hR:Zde l d fb det=if Zcr l then 7 else match Zev d with
  |some c=>c
  |none=>if det then(match Zho l with|some c=>c|none=>fb) else fb:=rfl
 have L:Zho l=if(Z5 l Zco (0,0,false)).2.2 then some (Z5 l Zco (0,0,false)).2.1 else none:=rfl
 unfold ZgR at D;generalize Zde l d fb det=R at*;generalize Zho l=gl at*;generalize Zcr l=ok at*;generalize Zev d=nm at*;generalize (Z5 l Zco (0,0,false)).2.2=fo at*;generalize (Z5 l Zco (0,0,false)).2.1=gs at*;cases ok
 ·cases nm with
  |some c=>
   obtain rfl:R=c:=by rw[hR];rfl
   unfold NmV at D;simp only at D;clear hR L;go_enter func89,ntmps89
   go_wp2_with (first
    |(go_at_call 100;refine MR (O _ (ZK hG.tabs _)) λw1 C=>?_;have q:=QQ C;clear C)
    |(go_at_call 143;refine MR (D _) λX y=>?_;have j:=QQ ((Ze q.out).trans (y.mono (Nat.le_of_lt (ZY q.out))));have J:=Zgi w q.out y;obtain⟨W,V⟩:=J;clear y)
    |(go_at_call 145;refine(ZfL _).mono ?_;rintro e w3 ⟨rfl,rfl⟩)
    |(go_at_call 144;refine MR (U X (hG.below j.out)) λw4 u=>?_;have N:=QQ (j.trans ((Ze u).mono j.size));have I:=Zgj W V (Ze u);obtain⟨Z,Y⟩:=I;clear u))
   go_ret
   exact⟨rfl,j.out⟩
  |none=>
   unfold NmV at D;simp only at D;cases det
   ·obtain rfl:R=fb:=by rw[hR];rfl
    clear hR L;go_enter func89,ntmps89
    go_wp2_with (first
     |(go_at_call 100;refine MR (O _ (ZK hG.tabs _)) λw1 C=>?_;have q:=QQ C;clear C)
     |(go_at_call 143;refine MR (D _) λX y=>?_;have j:=QQ ((Ze q.out).trans (y.mono (Nat.le_of_lt (ZY q.out))));have J:=Zgi w q.out y;obtain⟨W,V⟩:=J;clear y)
     |(go_at_call 145;refine(ZfL _).mono ?_;rintro e w3 ⟨rfl,rfl⟩)
     |(go_at_call 144;refine MR (U X (hG.below j.out)) λw4 u=>?_;have N:=QQ (j.trans ((Ze u).mono j.size));have I:=Zgj W V (Ze u);obtain⟨Z,Y⟩:=I;clear u))
    go_ret
    exact⟨rfl,j.out⟩
   ·cases fo
    ·obtain rfl:R=fb:=by rw[hR,L];rfl
     clear hR L;go_enter func89,ntmps89
     go_wp2_with (first
      |(go_at_call 100;refine MR (O _ (ZK hG.tabs _)) λw1 C=>?_;have q:=QQ C;clear C)
      |(go_at_call 143;refine MR (D _) λX y=>?_;have j:=QQ ((Ze q.out).trans (y.mono (Nat.le_of_lt (ZY q.out))));have J:=Zgi w q.out y;obtain⟨W,V⟩:=J;clear y)
      |(go_at_call 145;refine(ZfL _).mono ?_;rintro e w3 ⟨rfl,rfl⟩)
      |(go_at_call 144;refine MR (U X (hG.below j.out)) λw4 u=>?_;have N:=QQ (j.trans ((Ze u).mono j.size));have I:=Zgj W V (Ze u);obtain⟨Z,Y⟩:=I;clear u))
     go_ret
     exact⟨rfl,N.out⟩
    ·obtain rfl:R=gs:=by rw[hR,L];rfl
     clear hR L;go_enter func89,ntmps89
     go_wp2_with (first
      |(go_at_call 100;refine MR (O _ (ZK hG.tabs _)) λw1 C=>?_;have q:=QQ C;clear C)
      |(go_at_call 143;refine MR (D _) λX y=>?_;have j:=QQ ((Ze q.out).trans (y.mono (Nat.le_of_lt (ZY q.out))));have J:=Zgi w q.out y;obtain⟨W,V⟩:=J;clear y)
      |(go_at_call 145;refine(ZfL _).mono ?_;rintro e w3 ⟨rfl,rfl⟩)
      |(go_at_call 144;refine MR (U X (hG.below j.out)) λw4 u=>?_;have N:=QQ (j.trans ((Ze u).mono j.size));have I:=Zgj W V (Ze u);obtain⟨Z,Y⟩:=I;clear u))
     go_ret
     exact⟨rfl,N.out⟩
 ·obtain rfl:R=7:=by rw[hR];rfl
  clear hR L;go_enter func89,ntmps89
  go_wp2_with (first
   |(go_at_call 100;refine MR (O _ (ZK hG.tabs _)) λw1 C=>?_;have q:=QQ C;clear C)
   |(go_at_call 143;refine MR (D _) λX y=>?_;have j:=QQ ((Ze q.out).trans (y.mono (Nat.le_of_lt (ZY q.out))));have J:=Zgi w q.out y;obtain⟨W,V⟩:=J;clear y)
   |(go_at_call 145;refine(ZfL _).mono ?_;rintro e w3 ⟨rfl,rfl⟩)
   |(go_at_call 144;refine MR (U X (hG.below j.out)) λw4 u=>?_;have N:=QQ (j.trans ((Ze u).mono j.size));have I:=Zgj W V (Ze u);obtain⟨Z,Y⟩:=I;clear u))
  go_ret
  exact⟨rfl,Ze q.out⟩
open Go Go.RowKit
def ltB:Lt->UInt8
 | .lang=>108
 | .fmt=>102
 | .mime=>122
 | .kind=>107
 | .desc=>100
 | .text=>116
 | .data=>114
def ltN:Lt->List UInt8
 | .lang=>[108,97,110,103,117,97,103,101]
 | .fmt=>[102,111,114,109,97,116]
 | .mime=>[109,105,109,101]
 | .kind=>[107,105,110,100]
 | .desc=>[100,101,115,99,114,105,112,116,105,111,110]
 | .text=>[116,101,120,116]
 | .data=>[100,97,116,97]
def Zn(l:List Lt):List UInt8:=l.map ltB
def Zc5(l:List UInt8)(c:List UInt8)(h:l≠c):((B l).toList==c)=false:=by
 rw[ByteArray.toList_eq,Z9,beq_eq_false_iff_ne];exact h
def L2_any(id:List UInt8)(hid:id.length<=100000)(w:World):
 Calls prog 213 #[.string (B id)] w λe w'=>e=.returned (.string (B (Zn (Zg 2 id))))/\w=w':=by
 by_cases h0:id=[84,88,88]
 ·subst h0;rw[show Zn (Zg 2 [84,88,88])=[100,116] by decide,show B [84,88,88]=⟨#[84,88,88]⟩ from rfl];go_enter func213,ntmps213
  go_wp2_with fail
  go_ret
  exact⟨rfl,rfl⟩
 have W:=Zc5 id [84,88,88] h0;by_cases D:id=[67,79,77]
 ·subst D;rw[show Zn (Zg 2 [67,79,77])=[108,100,116] by decide,show B [67,79,77]=⟨#[67,79,77]⟩ from rfl];go_enter func213,ntmps213
  go_wp2_with fail
  go_ret
  exact⟨rfl,rfl⟩
 have V:=Zc5 id [67,79,77] D;by_cases C:id=[85,76,84]
 ·subst C;rw[show Zn (Zg 2 [85,76,84])=[108,100,116] by decide,show B [85,76,84]=⟨#[85,76,84]⟩ from rfl];go_enter func213,ntmps213
  go_wp2_with fail
  go_ret
  exact⟨rfl,rfl⟩
 have U:=Zc5 id [85,76,84] C;by_cases y:id=[87,88,88]
 ·subst y;rw[show Zn (Zg 2 [87,88,88])=[100,114] by decide,show B [87,88,88]=⟨#[87,88,88]⟩ from rfl];go_enter func213,ntmps213
  go_wp2_with fail
  go_ret
  exact⟨rfl,rfl⟩
 have O:=Zc5 id [87,88,88] y;by_cases u:id=[80,73,67]
 ·subst u;rw[show Zn (Zg 2 [80,73,67])=[102,107,100,114] by decide,show B [80,73,67]=⟨#[80,73,67]⟩ from rfl];go_enter func213,ntmps213
  go_wp2_with fail
  go_ret
  exact⟨rfl,rfl⟩
 have N:=Zc5 id [80,73,67] u;have L:=Zj id;have q:Zg 2 id=if id.length=3/\id.head? =some 84 then [.text] else []:=by
  unfold Zg;simp[h0,D,C,y,u]
 rw[q];clear q h0 D C y u;by_cases hn:id.length=3
 ·have I:((id.length:Int)==3)=true:=by simp;omega
  have X:=ZaV id 0 (by omega);have j:id.head? =some (id[0]'(by omega)):=by cases id with|nil=>simp at hn|cons a r=>rfl
  by_cases hT:id[0]'(by omega)=84
  ·have J:((id[0]'(by omega)).toNat:Int)=84:=by rw[hT];rfl
   rw[if_pos ⟨hn,by rw[j,hT]⟩,show Zn [.text]=[116] from rfl];clear hT j;go_enter func213,ntmps213
   go_wp2_with fail
   go_ret
   exact⟨rfl,rfl⟩
  ·have J:(((id[0]'(by omega)).toNat:Int)==84)=false:=by
    rw[beq_eq_false_iff_ne];intro e;exact hT (UInt8.toNat_inj.1 (by show(id[0]'(by omega)).toNat=84;omega))
   rw[if_neg (λh=>hT (by have:=h.2;rw[j] at this;injection this)),show Zn []=[] from rfl];clear hT j;go_enter func213,ntmps213
   go_wp2_with fail
   go_ret
   exact⟨rfl,rfl⟩
 ·have I:((id.length:Int)==3)=false:=by rw[beq_eq_false_iff_ne];omega
  rw[if_neg (λh=>hn h.1),show Zn []=[] from rfl];go_enter func213,ntmps213
  go_wp2_with fail
  go_ret
  exact⟨rfl,rfl⟩
def L4_any(id:List UInt8)(hid:id.length<=100000)(w:World):
 Calls prog 214 #[.string (B id)] w λe w'=>e=.returned (.string (B (Zn (Zg 4 id))))/\w=w':=by
 by_cases h0:id=[84,88,88,88]
 ·subst h0;rw[show Zn (Zg 4 [84,88,88,88])=[100,116] by decide,show B [84,88,88,88]=⟨#[84,88,88,88]⟩ from rfl];go_enter func214,ntmps214
  go_wp2_with fail
  go_ret
  exact⟨rfl,rfl⟩
 have W:=Zc5 id [84,88,88,88] h0;by_cases D:id=[67,79,77,77]
 ·subst D;rw[show Zn (Zg 4 [67,79,77,77])=[108,100,116] by decide,show B [67,79,77,77]=⟨#[67,79,77,77]⟩ from rfl];go_enter func214,ntmps214
  go_wp2_with fail
  go_ret
  exact⟨rfl,rfl⟩
 have V:=Zc5 id [67,79,77,77] D;by_cases C:id=[85,83,76,84]
 ·subst C;rw[show Zn (Zg 4 [85,83,76,84])=[108,100,116] by decide,show B [85,83,76,84]=⟨#[85,83,76,84]⟩ from rfl];go_enter func214,ntmps214
  go_wp2_with fail
  go_ret
  exact⟨rfl,rfl⟩
 have U:=Zc5 id [85,83,76,84] C;by_cases y:id=[87,88,88,88]
 ·subst y;rw[show Zn (Zg 4 [87,88,88,88])=[100,114] by decide,show B [87,88,88,88]=⟨#[87,88,88,88]⟩ from rfl];go_enter func214,ntmps214
  go_wp2_with fail
  go_ret
  exact⟨rfl,rfl⟩
 have O:=Zc5 id [87,88,88,88] y;by_cases u:id=[65,80,73,67]
 ·subst u;rw[show Zn (Zg 4 [65,80,73,67])=[122,107,100,114] by decide,show B [65,80,73,67]=⟨#[65,80,73,67]⟩ from rfl];go_enter func214,ntmps214
  go_wp2_with fail
  go_ret
  exact⟨rfl,rfl⟩
 have N:=Zc5 id [65,80,73,67] u;have L:=Zj id;have q:Zg 4 id=if id.length=4/\id.head? =some 84 then [.text] else []:=by
  unfold Zg;simp[h0,D,C,y,u]
 rw[q];clear q h0 D C y u;by_cases hn:id.length=4
 ·have I:((id.length:Int)==4)=true:=by simp;omega
  have X:=ZaV id 0 (by omega);have j:id.head? =some (id[0]'(by omega)):=by cases id with|nil=>simp at hn|cons a r=>rfl
  by_cases hT:id[0]'(by omega)=84
  ·have J:((id[0]'(by omega)).toNat:Int)=84:=by rw[hT];rfl
   rw[if_pos ⟨hn,by rw[j,hT]⟩,show Zn [.text]=[116] from rfl];clear hT j;go_enter func214,ntmps214
   go_wp2_with fail
   go_ret
   exact⟨rfl,rfl⟩
  ·have J:(((id[0]'(by omega)).toNat:Int)==84)=false:=by
    rw[beq_eq_false_iff_ne];intro e;exact hT (UInt8.toNat_inj.1 (by show(id[0]'(by omega)).toNat=84;omega))
   rw[if_neg (λh=>hT (by have:=h.2;rw[j] at this;injection this)),show Zn []=[] from rfl];clear hT j;go_enter func214,ntmps214
   go_wp2_with fail
   go_ret
   exact⟨rfl,rfl⟩
 ·have I:((id.length:Int)==4)=false:=by rw[beq_eq_false_iff_ne];omega
  rw[if_neg (λh=>hn h.1),show Zn []=[] from rfl];go_enter func214,ntmps214
  go_wp2_with fail
  go_ret
  exact⟨rfl,rfl⟩
def lay34(id:List UInt8):Zg 3 id=Zg 4 id:=by unfold Zg;simp
def Zhu(v:Nat)(id:List UInt8)(h:v≠2/\v≠3/\v≠4):Zg v id=[]:=by unfold Zg;simp[h]
def ZfF(v:Nat)(id:List UInt8)(hid:id.length<=100000)(w:World):
 Calls prog 131 #[.int .i64 v,.string (B id)] w λe w'=>e=.returned (.string (B (Zn (Zg v id))))/\w=w':=by
 have u:=λw=>L2_any id hid w;have j:=λw=>L4_any id hid w;by_cases D:v=2
 ·subst D;generalize B (Zn (Zg 2 id))=R at*;go_enter func131,ntmps131
  go_wp2_with (go_at_call 213;refine(u _).mono ?_;rintro e q ⟨rfl,rfl⟩)
  go_ret
  exact⟨rfl,rfl⟩
 by_cases C:v=3
 ·subst C;rw[lay34];generalize B (Zn (Zg 4 id))=R at*;go_enter func131,ntmps131
  go_wp2_with (go_at_call 214;refine(j _).mono ?_;rintro e q ⟨rfl,rfl⟩)
  go_ret
  exact⟨rfl,rfl⟩
 by_cases y:v=4
 ·subst y;generalize B (Zn (Zg 4 id))=R at*;go_enter func131,ntmps131
  go_wp2_with (go_at_call 214;refine(j _).mono ?_;rintro e q ⟨rfl,rfl⟩)
  go_ret
  exact⟨rfl,rfl⟩
 rw[Zhu v id ⟨D,C,y⟩,show Zn []=[] from rfl];have L:((v:Int)==2)=false:=by rw[beq_eq_false_iff_ne];omega
 have J:((v:Int)==3)=false:=by rw[beq_eq_false_iff_ne];omega
 have I:((v:Int)==4)=false:=by rw[beq_eq_false_iff_ne];omega
 clear u j;go_enter func131,ntmps131
 go_wp2_with fail
 go_ret
 exact⟨rfl,rfl⟩
def ZeT(l:Lt)(w:World):Calls prog 132 #[.int .u8 (ltB l).toNat] w λe w'=>e=.returned (.string (B (ltN l)))/\w=w':=by
 cases l
 all_goals
  rw[show B (ltN _)=_ from rfl];unfold ltB ltN;go_enter func132,ntmps132
  go_wp2_with fail
  go_ret
  exact⟨rfl,rfl⟩
def ZqW(v enc:Nat)(he:enc<256)(w:World):Calls prog 133 #[.int .i64 v,.int .u8 enc] w λe w'=>e=.returned (.bool (Zfj v enc))/\w=w':=by
 unfold Zfj;by_cases u:enc<=1
 ·have C:(enc:Int)<=1:=by omega
  rw[decide_eq_true u,Bool.true_or];go_enter func133,ntmps133
  go_wp2_with fail
  go_ret
  exact⟨rfl,rfl⟩
 ·have C:¬(enc:Int)<=1:=by omega
  rw[decide_eq_false u,Bool.false_or];by_cases j:v=4
  ·subst j;by_cases q:enc<=3
   ·have y:(enc:Int)<=3:=by omega
    rw[decide_eq_true q];go_enter func133,ntmps133
    go_wp2_with fail
    go_ret
    exact⟨rfl,rfl⟩
   ·have y:¬(enc:Int)<=3:=by omega
    rw[decide_eq_false q];go_enter func133,ntmps133
    go_wp2_with fail
    go_ret
    exact⟨rfl,rfl⟩
  ·have D:((v:Int)==4)=false:=by rw[beq_eq_false_iff_ne];omega
   rw[beq_eq_false_iff_ne.2 j,Bool.false_and];go_enter func133,ntmps133
   go_wp2_with fail
   go_ret
   exact⟨rfl,rfl⟩
