/- Lemmas for a statement on the tops; conditions: as each says. -/
import Derived.Laws.Tables
import Derived.Deep.WholeRow
import Derived.Lib.Bytealg
import Derived.Test.YtjilfbhkdjanhaaGreatDoorM18
set_option linter.all false
set_option maxRecDepth 100000
set_option maxHeartbeats 1000000
open Go.Proofs.Tryz
namespace Go.Proofs.YtjilfbhkdjanhaaGreatDoor
open Go Go.RowKit
def Zje{x y:Int}(j:0<=y)(q:y<256)(u:0<=x)(C:x<8388608):bits .or .i64 (x*256) y=x*256+y:=
 bits_join .i64 63 (by decide) (λn h0 D=>by simp[IntKind.wrap,IntKind.bits,IntKind.signed];omega) 8 (x*256) y (by omega) (by omega) (by omega) j q (by omega)
def wB(l:Int):ByteArray:=⟨(Zc8 (Z1 l)).toArray⟩
def litW(l:Int)(d:Array UInt8)(h:ZdP d.toList (Zc8 (Z1 l))=true):ByteArray.mk d=wB l:=by
 have:=Zhg _ _ h;unfold wB;rw[<-this]
def Zew:ByteArray:=⟨#[]⟩
def litN:ByteArray.mk #[]=Zew:=rfl
def Zpx{l:Int}(u:l≠161)(q:l≠162)(j:l≠166):wB l=Zew:=by
 unfold wB Z1;rw[if_neg u,if_neg q,if_neg j];rfl
def Zk3(l:Int)(O:0<=l/\l<=255)(w:World):
 Calls prog 363 #[.int .i64 l] w λe w'=>e=.returned (.tuple #[.string (wB l),.int .i64 (l*256+161)])/\Below w.heap.size w w':=by
 obtain⟨L,U⟩:=O;have N:bits .or .i64 (l*256) 161=l*256+161:=Zje (by omega) (by omega) L (by omega);have J:=λu q j=>@Zpx l u q j;refine calls_of_wp func363 rfl ?_;rw[litN];rw[litW 161]
 rotate_left
 kernel_rfl
 rw[litW 162]
 rotate_left
 kernel_rfl
 rw[litW 166]
 rotate_left
 kernel_rfl
 simp only[ntmps363,List.size_toArray,List.length_cons,List.length_nil,Nat.reduceAdd,Nat.reduceSub,Array.replicate_succ,Array.replicate_zero,List.push_toArray,List.append_toArray,List.nil_append,List.cons_append];by_cases u:l=161
 ·subst u;generalize wB 161=D;generalize wB 162=C;generalize wB 166=y;generalize Zew=I;go_wp2_with fail
  go_ret2
  exact⟨rfl,Below.refl _ _⟩
 by_cases q:l=162
 ·subst q;generalize wB 161=D;generalize wB 162=C;generalize wB 166=y;generalize Zew=I;go_wp2_with fail
  go_ret2
  exact⟨rfl,Below.refl _ _⟩
 by_cases j:l=166
 ·subst j;generalize wB 161=D;generalize wB 162=C;generalize wB 166=y;generalize Zew=I;go_wp2_with fail
  go_ret2
  exact⟨rfl,Below.refl _ _⟩
 rw[J u q j];clear J;generalize wB 161=D;generalize wB 162=C;generalize wB 166=y;generalize Zew=I;have X:(l==161)=false:=by simp;omega
 have W:(l==162)=false:=by simp;omega
 have V:(l==166)=false:=by simp;omega
 go_wp2_with fail
 go_ret2
 exact⟨rfl,Below.refl _ _⟩
def spC(k:Nat):Int:=(SPN.getD k (0,0,0)).1
def spT(k:Nat):Int:=(SPN.getD k (0,0,0)).2.1
def spN(k:Nat):Int:=(SPN.getD k (0,0,0)).2.2
def ZdO(w:World)(j:Nat):Prop:=∀k:Nat,k<19->w.cell? ⟨j,k*3,none⟩=some (.int .i64 (spC k))/\w.cell? ⟨j,k*3+1,none⟩=some (.int .i32 (spT k))/\w.cell? ⟨j,k*3+2,none⟩=some (.int .i64 (spN k))
def ZdO.keep{w w':World}{q B:Nat}(h:ZdO w q)(hb:Below B w w')(hB:w.heap.size<=B):ZdO w' q:=λk y=>by
 obtain⟨a,b,c⟩:=h k y;have u:=World.block_lt_of_cell? _ _ a;have j:q<B:=Nat.lt_of_lt_of_le u hB;exact⟨(hb.cell (p:=⟨q,_,none⟩) j).trans a,(hb.cell (p:=⟨q,_,none⟩) j).trans b,(hb.cell (p:=⟨q,_,none⟩) j).trans c⟩
def SpPost(w0:World)(e:Ending)(w':World):Prop:=∃j:Nat,e=.returned (.slice (some ⟨j,0,none⟩) 19 19)/\ZdO w' j/\Below w0.heap.size w0 w'
def lt19{k:Nat}(h:k<19):k=0\/k=1\/k=2\/k=3\/k=4\/k=5\/k=6\/k=7\/k=8\/k=9\/k=10\/k=11\/k=12\/k=13\/k=14\/k=15\/k=16\/k=17\/k=18:=by omega
def spV:Array Value:=#[.int .i64 41889,.int .i32 65281,.int .i64 59,.int .i64 41948,.int .i32 65510,.int .i64 1,.int .i64 41949,.int .i32 65341,.int .i64 33,.int .i64 41982,.int .i32 65507,.int .i64 1,.int .i64 42145,.int .i32 12593,.int .i64 94,.int .i64 42401,.int .i32 8560,.int .i64 10,.int .i64 42416,.int .i32 8544,.int .i64 10,.int .i64 42433,.int .i32 913,.int .i64 17,.int .i64 42450,.int .i32 931,.int .i64 7,.int .i64 42465,.int .i32 945,.int .i64 17,.int .i64 42482,.int .i32 963,.int .i64 7,.int .i64 43681,.int .i32 12353,.int .i64 83,.int .i64 43937,.int .i32 12449,.int .i64 86,.int .i64 44193,.int .i32 1040,.int .i64 6,.int .i64 44199,.int .i32 1025,.int .i64 1,.int .i64 44200,.int .i32 1046,.int .i64 26,.int .i64 44241,.int .i32 1072,.int .i64 6,.int .i64 44247,.int .i32 1105,.int .i64 1,.int .i64 44248,.int .i32 1078,.int .i64 26]
def spV_at{k:Nat}(h:k<19):spV[k*3]?=some (.int .i64 (spC k))/\spV[k*3+1]?=some (.int .i32 (spT k))/\spV[k*3+2]?=some (.int .i64 (spN k)):=by
 rcases lt19 h with rfl|rfl|rfl|rfl|rfl|rfl|rfl|rfl|rfl|rfl|rfl|rfl|rfl|rfl|rfl|rfl|rfl|rfl|rfl<;>exact⟨rfl,rfl,rfl⟩
def Zr1(w:World):ZdO (w.alloc (.cells spV 377)) w.heap.size:=λk u=>by
 have q:=λj=>cell_of_row (w.alloc (.cells spV 377)) w.heap.size j _ 377 (0,0) (heap_alloc_new w _);rw[q,q,q];exact spV_at u
def Zr5(w:World):Calls prog 365 #[] w (SpPost w):=by
 have hS:=Zr1 w;unfold spV at hS;go_enter func365,ntmps365
 go_wp2_with fail
 go_ret
 exact⟨_,rfl,hS,(Below.refl _ w).alloc NL _⟩
def drop19{k:Nat}(h:k<19):SPN.drop k=(spC k,spT k,spN k)::SPN.drop (k+1):=by
 have j:k<SPN.length:=by simpa[SPN] using h
 rw[List.drop_eq_getElem_cons j];simp only[spC,spT,spN,List.getD_eq_getElem?_getD,List.getElem?_eq_getElem j,Option.getD_some]
def ZwG{k:Nat}(h:k<19)(j:Int):ZbX (SPN.drop k) j=if spC k<=j/\j<spC k+spN k then spT k+(j - spC k) else ZbX (SPN.drop (k+1)) j:=by
 rw[drop19 h];rfl
def sp_bd{k:Nat}(h:k<19):41000<=spC k/\spC k<=65535/\1<=spT k/\spT k<=65535/\1<=spN k/\spN k<=94/\spT k+spN k<=65536:=by
 rcases lt19 h with rfl|rfl|rfl|rfl|rfl|rfl|rfl|rfl|rfl|rfl|rfl|rfl|rfl|rfl|rfl|rfl|rfl|rfl|rfl<;>decide+kernel
def OtRel(j:Int)(w0:World)(q:Nat)(i:Value)(wr:World):Prop:=∃k:Nat,k<=19/\i=.int .i64 k/\ZbX SPN j=ZbX (SPN.drop k) j/\ZdO wr q/\Below w0.heap.size w0 wr
def Zjc{x:Int}(h0:0<=x)(j:x<=65535):bits .and .i64 x 255=x % 256:=
 bits_mask .i64 63 (by decide) (λn h0 j=>by simp[IntKind.wrap,IntKind.bits,IntKind.signed];omega) 8 (by decide) x h0 (by omega)
def Zrc(j u b:Int)(ae:0<=j/\j<=65535)(e1:bits .and .i64 j 255=b)(e2:j / 256=u)(hb:161<=b/\b<=254)(h1:u≠161)(h2:u≠162)(h6:u≠166)(w:World):
 Calls prog 351 #[.int .i64 j] w λe w'=>e=.returned (.tuple #[.int .i32 (ZbX SPN j),.bool (decide (ZbX SPN j≠0))])/\Below w.heap.size w w':=by
 have L:=λw=>Zk3 u (by omega) w;rw[Zpx h1 h2 h6] at L;unfold Zew at L;obtain⟨b0,b1⟩:=hb;have d1:decide (b<161)=false:=by simp;omega
 have d2:decide ((254:Int)<b)=false:=by simp;omega
 go_enter func351,ntmps351
 go_wp2_with (first|(go_at_call 363;refine MR (L _) λw1 N=>?_)|(go_at_call 365;refine(Zr5 _).mono ?_;rintro e w2 ⟨bk,rfl,hS,V⟩))
 have aa:=N.trans (V.mono N.size);clear L e1 e2 d1 d2 h1 h2 h6 N V;go_loopw [33] (λi wr=>OtRel j w bk i wr) (λi _=>19 - (intOf i).toNat)
 case atStart=>exact⟨0,by omega,rfl,rfl,hS,aa⟩
 case round=>
  obtain⟨k,hk,rfl,D,O,I⟩:=hrel;by_cases J:k<19
  ·have q:=QQ (ZwG J j);obtain⟨c0,c1,c2⟩:=O k J;have af:=sp_bd J;generalize spC k=C at*;generalize spT k=T at*;generalize spN k=M at*;by_cases Z:C<=j
   ·by_cases Y:j<C+M
    ·have y:=QQ (show ZbX SPN j=T+(j - C) by rw[D,q.out,if_pos ⟨Z,Y⟩]);clear D q;go_wp2_with fail
     go_ret2
     refine⟨?_,I.alloc I.size _⟩;have W:T+(j - C)≠0:=by omega
     show Ending.returned (.tuple #[.int .i32 (T+(j - C)),.bool true])=_
     rw[y.out,decide_eq_true W]
    ·have hd:decide (j<C+M)=false:=by simpa using Y
     have y:=QQ (show ZbX SPN j=ZbX (SPN.drop (k+1)) j by rw[D,q.out,if_neg (λh=>Y h.2)]);clear D q;go_wp2_with fail
     go_roundw
     case rel=>exact⟨k+1,by omega,by go_num,y,ZdO.keep O ((Below.refl _ _).alloc NL _) NL,I.alloc I.size _⟩
     case measure=>simp[intOf];omega
   ·have hd:decide (C<=j)=false:=by simpa using Z
    have y:=QQ (show ZbX SPN j=ZbX (SPN.drop (k+1)) j by rw[D,q.out,if_neg (λh=>Z h.1)]);clear D q;go_wp2_with fail
    go_roundw
    case rel=>exact⟨k+1,by omega,by go_num,y,ZdO.keep O ((Below.refl _ _).alloc NL _) NL,I.alloc I.size _⟩
    case measure=>simp[intOf];omega
  ·have X:k=19:=by omega
   subst X;have U:=QQ (show ZbX SPN j=0 by rw[D];rfl);clear J D;go_wp2_with fail
   go_ret2
   rw[U.out];exact⟨rfl,I⟩
def Zrb(j:Int)(q:0<=j/\j<=65535)(hb:j % 256<161\/254<j % 256)(w:World):
 Calls prog 351 #[.int .i64 j] w λe w'=>e=.returned (.tuple #[.int .i32 0,.bool false])/\Below w.heap.size w w':=by
 have u:=Zjc q.1 q.2;generalize j % 256=b at*;rcases hb with hb|hb
 ·have d1:decide (b<161)=true:=by simpa using hb
  go_enter func351,ntmps351
  go_wp2_with fail
  go_ret2
  exact⟨rfl,Below.refl _ _⟩
 ·have d1:decide (b<161)=false:=by simp;omega
  have d2:decide ((254:Int)<b)=true:=by simpa using hb
  go_enter func351,ntmps351
  go_wp2_with fail
  go_ret2
  exact⟨rfl,Below.refl _ _⟩
def Zsu(s:ByteArray)(ps:List Int)(h:Zdj s ps)(k:Int)(hs:s.size<=100000)(j: -100000<=k/\k<=100000)(w:World):
 Calls prog 369 #[.string s,.int .i64 k] w λe w'=>e=.returned (.tuple #[.int .i32 (if 0<=k/\k<ps.length then ps.getD k.toNat 0 else 0),.bool (decide (0<=k/\k<ps.length))])/\Below w.heap.size w w':=by
 by_cases q:0<=k/\k<ps.length
 ·have:=ZpL s ps h k.toNat (by omega) hs w;have e:((k.toNat:Nat):Int)=k:=by omega
  rw[e] at this;simp only[q,and_self,if_true,decide_true];exact this
 ·have:=ZpM s ps h k (by omega) hs j w;simp only[if_neg q,decide_eq_false q];exact this
def Zoq(l:Int):∀p∈Z1 l,0<p/\p<=65535:=by
 intro p j;have h:=List.all_eq_true.1 ZvO p;simp only[Bool.and_eq_true,decide_eq_true_eq] at h;refine h ?_;unfold Z1 at j;simp only[List.mem_append];split at j
 ·exact .inl (.inl j)
 ·split at j
  ·exact .inl (.inr j)
  ·split at j
   ·exact .inr j
   ·cases j
def ZuN(l:Int):(Z1 l).length<=94:=by
 obtain⟨a,b,c⟩:=ZuM;unfold Z1;split
 ·omega
 ·split
  ·omega
  ·split
   ·omega
   ·simp
def Zut(l:Int):Zdj (wB l) (Z1 l)/\(wB l).size<=100000:=by
 have j:Zdj (wB l) (Z1 l):=⟨by simp[wB],λp q=>by have:=Zoq l p q;omega⟩
 refine⟨j,?_⟩;have:=ZuN l;rw[j.size];omega
def ZmY(l:Int)(h:l=161\/l=162\/l=166):(Z1 l).isEmpty=false/\0<(Z1 l).length:=by
 rcases h with rfl|rfl|rfl<;>decide+kernel
def ne_nil{s:ByteArray}(h:0<s.size):s.toList.isEmpty=false:=by
 rw[ByteArray.toList_eq];have j:s.data.toList.length=s.size:=by simp
 generalize s.data.toList=l at*
 match l,j with
 |[],j=>simp at j;omega
 |_::_,_=>rfl
def Zra(q j b:Int)(D:0<=q/\q<=65535)(O:q=j*256+b)(hb:161<=b/\b<=254)(V:j=161\/j=162\/j=166)(w:World):
 Calls prog 351 #[.int .i64 q] w λe w'=>e=.returned (.tuple #[.int .i32 ((Z1 j).getD (b - 161).toNat 0),.bool (decide ((Z1 j).getD (b - 161).toNat 0≠0))])/\Below w.heap.size w w':=by
 have Y:=Zjc D.1 D.2;have e2:q / 256=j:=by omega
 have W:q % 256=b:=by omega
 have e4:q - (j*256+161)=b - 161:=by omega
 rw[W] at Y;have N:=λw=>Zk3 j (by omega) w;obtain⟨L,C⟩:=Zut j;have J:=λw=>Zsu (wB j) (Z1 j) L (b - 161) C (by omega) w;have X:=ne_nil (s:=wB j) (by have:=(ZmY j V).2;rw[L.size];omega);have u:(if 0<=b - 161/\b - 161<(Z1 j).length then(Z1 j).getD (b - 161).toNat 0 else 0)=(Z1 j).getD (b - 161).toNat 0/\decide (0<=b - 161/\b - 161<(Z1 j).length)=decide ((Z1 j).getD (b - 161).toNat 0≠0):=by
  by_cases y:b - 161<(Z1 j).length
  ·have:=Zoq j _ (Zeq (ps:=Z1 j) (k:=(b - 161).toNat) (by omega));refine⟨if_pos ⟨by omega,y⟩,?_⟩;rw[decide_eq_true (⟨by omega,y⟩:0<=b - 161/\b - 161<(Z1 j).length),decide_eq_true (by omega)]
  ·have h0:(Z1 j).getD (b - 161).toNat 0=0:=by
    rw[List.getD_eq_getElem?_getD,List.getElem?_eq_none (by omega)];rfl
   rw[h0];refine⟨if_neg (λh=>y h.2),?_⟩;rw[decide_eq_false (λh=>y h.2)];rfl
 rw[u.1,u.2] at J;clear u L C W;generalize wB j=s at*;generalize decide ((Z1 j).getD (b - 161).toNat 0≠0)=ok at*;generalize (Z1 j).getD (b - 161).toNat 0=v at*;obtain⟨b0,b1⟩:=hb;have d1:decide (b<161)=false:=by simp;omega
 have d2:decide ((254:Int)<b)=false:=by simp;omega
 clear O V;go_enter func351,ntmps351
 go_wp2_with (first|(go_at_call 363;refine MR (N _) λw1 I=>?_)|(go_at_call 369;refine MR (J _) λZ U=>?_))
 go_ret2
 exact⟨rfl,I.trans (U.mono I.size)⟩
def Zq9(j b:Int)(y:0<=j/\j<=255)(hb:0<=b/\b<=255)(w:World):
 Calls prog 351 #[.int .i64 (j*256+b)] w λe w'=>e=.returned (.tuple #[.int .i32 (ZdW j b),.bool (decide (ZdW j b≠0))])/\Below w.heap.size w w':=by
 unfold ZdW;by_cases q:b<161\/254<b
 ·rw[if_pos q];exact Zrb _ (by omega) (by omega) w
 ·rw[if_neg q];by_cases h:j=161\/j=162\/j=166
  ·rw[(ZmY j h).1];exact Zra _ j b (by omega) rfl (by omega) h w
  ·have e:(Z1 j).isEmpty=true:=by
    unfold Z1;rw[if_neg (λe=>h (.inl e)),if_neg (λe=>h (.inr (.inl e))),if_neg (λe=>h (.inr (.inr e)))];rfl
   rw[e];have u:=Zjc (x:=j*256+b) (by omega) (by omega);rw[show(j*256+b) % 256=b by omega] at u;exact Zrc _ j b (by omega) u (by omega) (by omega) (λe=>h (.inl e)) (λe=>h (.inr (.inl e))) (λe=>h (.inr (.inr e))) w
def ML(w:World):Prop:=∃m:Int,w.cell? ⟨3,0,none⟩=some (.int .i64 m)
def ZqQ{w w':World}{B:Nat}(h:ML w)(hb:Below B w w')(hB:w.heap.size<=B):ML w':=by
 obtain⟨m,j⟩:=h;exact⟨m,(hb.cell (p:=⟨_,0,none⟩) (Nat.lt_of_lt_of_le (World.block_lt_of_cell? _ _ j) hB)).trans j⟩
def ZcJ(k:Int)(b:Bool)(p:Int):Prop:=(k<0/\p=0)\/(0<=k/\Zeh k.toNat b p)
def Zjm{k:Int}{b:Bool}{p q:Int}(u:ZcJ k b p)(j:ZcJ k b q):p=q:=by
 rcases u with⟨a,rfl⟩|⟨a,u⟩<;>rcases j with⟨c,rfl⟩|⟨c,j⟩
 ·rfl
 ·omega
 ·omega
 ·exact ZuF u j
def Znp{k:Int}{b:Bool}{p:Int}(h:ZcJ k b p):p≠0↔(0<=k/\k<(if b then 2350 else 8822)):=by
 rcases h with⟨a,rfl⟩|⟨a,h⟩
 ·constructor
  ·intro h;exact absurd rfl h
  ·intro h;omega
 ·have:=kth_ne h;rw[Ztb] at this;cases b<;>simp only[Bool.false_eq_true,if_false,if_true] at this⊢<;>rw[this]<;>omega
def Zh9(k:Int)(b:Bool)(w0:World)(e:Ending)(w':World):Prop:=∃p,e=.returned (.tuple #[.int .i32 p,.bool (p !=0)])/\ZcJ k b p/\Below w0.heap.size w0 w'
def ZkJ(k:Int)(q:k<=9223372036854775807)(b:Bool)(w:World)(j:DB w):
 Calls prog 352 #[.int .i64 k,.bool b] w (Zh9 k b w):=by
 by_cases h0:k<0
 ·exact(ZpY k h0 b w).mono λe w' h=>⟨0,h.1,.inl ⟨h0,rfl⟩,h.2⟩
 ·have:=ZpX k.toNat (by omega) b w j;rw[show((k.toNat:Nat):Int)=k by omega] at this;exact this.mono λe w' ⟨p,h1,h2,h3⟩=>⟨p,h1,.inr ⟨by omega,h2⟩,h3⟩
def Zrq(k:Int)(u:k<=9223372036854775807)(w:World)(C:DB w):
 Calls prog 350 #[.int .i64 k] w (Zh9 k true w):=by
 have y:=λw=>ZkJ k u true w;go_enter func350,ntmps350
 go_wp2_with (first|(go_at_call 352;refine(y _ C).mono ?_;rintro e D ⟨p,rfl,q,j⟩))
 go_ret2
 exact⟨p,rfl,q,j⟩
def ZkT(k:Int)(u:k<=9223372036854775807)(w:World)(C:DB w):
 Calls prog 318 #[.int .i64 k] w (Zh9 k false w):=by
 have y:=λw=>ZkJ k u false w;go_enter func318,ntmps318
 go_wp2_with (first|(go_at_call 352;refine(y _ C).mono ?_;rintro e D ⟨p,rfl,q,j⟩))
 go_ret2
 exact⟨p,rfl,q,j⟩
def Zaw(b:Int):Int:=if 65<=b/\b<=90 then b - 65 else if 97<=b/\b<=122 then b - 97+26 else if 129<=b/\b<=254 then b - 129+52 else -1
def Zq5(b:Int)(hb: -1000<=b/\b<=1000)(w:World):
 Calls prog 316 #[.int .i64 b] w λe w'=>e=.returned (.int .i64 (Zaw b))/\Below w.heap.size w w':=by
 have h0:=hb.1;have j:=hb.2;go_enter func316,ntmps316
 go_wp2
 all_goals go_ret
 all_goals refine⟨ZaH ?_,Below.refl _ _⟩
 all_goals unfold Zaw
 all_goals repeat' split
 all_goals omega
def Zwp(b:Int): -1<=Zaw b/\Zaw b<=177:=by
 unfold Zaw
 repeat' split
 all_goals omega
def Zct(j b p:Int):Prop:=if b=255 then p=0 else if 176<=j/\j<=200 then ZcJ ((j - 176)*94+b - 161) true p else p=ZdW j b
def Zli(j b:Int)(w0:World)(e:Ending)(w':World):Prop:=∃p,e=.returned (.tuple #[.int .i32 p,.bool (p !=0)])/\Zct j b p/\Below w0.heap.size w0 w'
def Zu1(p:Int):(!decide (p=0))=(p !=0):=by
 by_cases h:p=0<;>simp[h]
def Zsx(j b:Int)(hl:161<=j/\j<=254)(hb:161<=b/\b<=255)(w:World)(hD:DB w):
 Calls prog 317 #[.int .i64 (j - 161),.int .i64 (b - 161)] w (Zli j b w):=by
 generalize U:Zli j b w=P at*;by_cases C:b=255
 ·have hd:decide ((94:Int)<=b - 161)=true:=by simp;omega
  go_enter func317,ntmps317
  go_wp2_with fail
  show P (.returned (.tuple #[.int .i32 0,.bool false])) w
  rw[<-U];exact⟨0,rfl,by unfold Zct;rw[if_pos C],Below.refl _ _⟩
 ·have hd:decide ((94:Int)<=b - 161)=false:=by simp;omega
  have hR:∀p,Zct j b p↔(if 176<=j/\j<=200 then ZcJ ((j - 176)*94+b - 161) true p else p=ZdW j b):=λp=>by unfold Zct;rw[if_neg C]
  have J:=λw=>Zrq ((j - 161)*94+(b - 161) - 1410) (by omega) w;have N:=λw=>Zq9 j b (by omega) (by omega) w;have he:(j - 161)*94+(b - 161) - 1410=(j - 176)*94+b - 161:=by omega
  have ab:bits .or .i64 ((j - 161+161)*256) (b - 161+161)=j*256+b:=by
   rw[show j - 161+161=j by omega,show b - 161+161=b by omega];exact Zje (by omega) (by omega) (by omega) (by omega)
  have He:=QQ he;have Y:=QQ hR;clear hR he;generalize V:j - 161=f at*;generalize hs:b - 161=s at*;have X:=QQ V;have W:=QQ hs;have f0:0<=f/\f<=93:=by omega
  have s0:0<=s/\s<=93:=by omega
  clear V hs;go_enter func317,ntmps317
  go_wp2_with (first|(go_at_call 350;refine(J _ hD).mono ?_;rintro e w1 ⟨p,rfl,L,D⟩)|(go_at_call 351;refine MR (N _) λZ O=>?_))
  ·rename_i y
   have u:p≠0:=by simpa using y
   have I:=(Znp L).1 u;simp only[if_true] at I;have q:176<=j/\j<=200:=by have:=X.out;have:=W.out;omega
   show P (.returned (.tuple #[.int .i32 p,.bool true])) w1
   rw[<-U];exact⟨p,by rw[y],(Y p).2 (by rw[if_pos q,<-He.out];exact L),D⟩
  ·rename_i y
   have u:¬(p≠0):=by simpa using y
   have I:=λh=>u ((Znp L).2 h);simp only[if_true] at I;have q:¬(176<=j/\j<=200):=by
    intro h;have:=X.out;have:=W.out;exact I (by omega)
   show P (.returned (.tuple #[.int .i32 (ZdW j b),.bool (!decide (ZdW j b=0))])) Z
   rw[<-U];exact⟨ZdW j b,by rw[Zu1],(Y _).2 (by rw[if_neg q]),D.trans (O.mono D.size)⟩
def Za4(j b p:Int):Prop:=if Zaw b<0\/j<129\/254<j then p=0 else if j<161 then ZcJ ((j - 129)*178+Zaw b) false p else if b<161 then ZcJ (5696+(j - 161)*84+Zaw b) false p else Zct j b p
def Zlo(j b:Int)(w0:World)(e:Ending)(w':World):Prop:=∃p,e=.returned (.tuple #[.int .i32 p,.bool (p !=0)])/\Za4 j b p/\Below w0.heap.size w0 w'
def ZrO(j b:Int)(hl:0<=j/\j<=255)(hb:0<=b/\b<=255)(w:World)(X:DB w):
 Calls prog 281 #[.int .u8 j,.int .u8 b] w (Zlo j b w):=by
 generalize O:Zlo j b w=P at*;have u:=λw=>Zq5 b (by omega) w;have ab:=Zwp b;obtain⟨l0,l1⟩:=hl;obtain⟨b0,b1⟩:=hb;by_cases hA:j<129\/254<j
 ·have y:Za4 j b 0:=by unfold Za4;rw[if_pos (by omega)]
  have I:=QQ y;clear y;generalize Zaw b=n at*;rcases hA with h|h
  ·go_enter func281,ntmps281
   go_wp2_with (first|(go_at_call 316;refine MR (u _) λU q=>?_))
   show P (.returned (.tuple #[.int .i32 0,.bool false])) _
   rw[<-O];exact⟨0,rfl,I,q⟩
  ·have Y:¬j<129:=by omega
   go_enter func281,ntmps281
   go_wp2_with (first|(go_at_call 316;refine MR (u _) λU q=>?_))
   show P (.returned (.tuple #[.int .i32 0,.bool false])) _
   rw[<-O];exact⟨0,rfl,I,q⟩
 have ae:¬j<129:=by omega
 have ad:¬254<j:=by omega
 by_cases hB:161<=j/\161<=b
 ·obtain⟨h1,Y⟩:=hB;have W:=λw=>Zsx j b (by omega) (by omega) w;have y:∀p,Zct j b p->Za4 j b p:=by
   intro p C;unfold Za4;by_cases L:b=255
   ·unfold Zct at C;rw[if_pos L] at C;rw[if_pos (by left;subst L;decide)];exact C
   ·rw[if_neg,if_neg (by omega),if_neg (by omega)]
    ·exact C
    ·have:0<=Zaw b:=by
      unfold Zaw;rw[if_neg (by omega),if_neg (by omega),if_pos (by omega)];omega
     omega
  have I:=QQ y;clear y;generalize Zaw b=n at*;have J:0<=j - 161:=by omega
  go_enter func281,ntmps281
  go_wp2_with (first|(go_at_call 316;refine MR (u _) λU q=>?_)|(go_at_call 317;refine(W _ (ZeQ X q NL)).mono ?_;rintro e Z ⟨p,rfl,C,D⟩))
  show P (.returned (.tuple #[.int .i32 p,.bool (p !=0)])) _
  rw[<-O];exact⟨p,rfl,I p C,q.trans (D.mono q.size)⟩
 by_cases hC:Zaw b<0
 ·have y:Za4 j b 0:=by unfold Za4;rw[if_pos (by omega)]
  have I:=QQ y;clear y;generalize Zaw b=n at*;by_cases h1:161<=j
  ·have J:decide (0<=j - 161)=true:=by simp;omega
   have Y:¬161<=b:=by omega
   go_enter func281,ntmps281
   go_wp2_with (first|(go_at_call 316;refine MR (u _) λU q=>?_))
   show P (.returned (.tuple #[.int .i32 0,.bool false])) _
   rw[<-O];exact⟨0,rfl,I,q⟩
  ·have J:decide (0<=j - 161)=false:=by simp;omega
   go_enter func281,ntmps281
   go_wp2_with (first|(go_at_call 316;refine MR (u _) λU q=>?_))
   show P (.returned (.tuple #[.int .i32 0,.bool false])) _
   rw[<-O];exact⟨0,rfl,I,q⟩
 by_cases hE:j<161
 ·have y:∀p,ZcJ ((j - 129)*178+Zaw b) false p->Za4 j b p:=by
   intro p C;unfold Za4;rw[if_neg (by omega),if_pos hE];exact C
  have N:=λw=>ZkT ((j - 129)*178+Zaw b) (by omega) w;have I:=QQ y;clear y;generalize Zaw b=n at*;have J:decide (0<=j - 161)=false:=by simp;omega
  have V:decide (j - 161<0)=true:=by simp;omega
  go_enter func281,ntmps281
  go_wp2_with (first|(go_at_call 316;refine MR (u _) λU q=>?_)|(go_at_call 318;refine(N _ (ZeQ X q NL)).mono ?_;rintro e Z ⟨p,rfl,C,D⟩))
  show P (.returned (.tuple #[.int .i32 p,.bool (p !=0)])) _
  rw[<-O];exact⟨p,rfl,I p C,q.trans (D.mono q.size)⟩
 ·have y:∀p,ZcJ (5696+(j - 161)*84+Zaw b) false p->Za4 j b p:=by
   intro p C;unfold Za4;rw[if_neg (by omega),if_neg hE,if_pos (by omega)];exact C
  have N:=λw=>ZkT (5696+(j - 161)*84+Zaw b) (by omega) w;have I:=QQ y;clear y;generalize Zaw b=n at*;have J:decide (0<=j - 161)=true:=by simp;omega
  have V:decide (j - 161<0)=false:=by simp;omega
  have Y:¬161<=b:=by omega
  go_enter func281,ntmps281
  go_wp2_with (first|(go_at_call 316;refine MR (u _) λU q=>?_)|(go_at_call 318;refine(N _ (ZeQ X q NL)).mono ?_;rintro e Z ⟨p,rfl,C,D⟩))
  show P (.returned (.tuple #[.int .i32 p,.bool (p !=0)])) _
  rw[<-O];exact⟨p,rfl,I p C,q.trans (D.mono q.size)⟩
def Zmd(b:Bool)(k:Nat):∀N,k<cnt b N->∃n,n<N/\ZaD n=b/\cnt b n=k
 |0,h=>absurd h (Nat.not_lt_zero _)
 |N+1,h=>by
  have hs:cnt b (N+1)=cnt b N+(if ZaD N=b then 1 else 0):=rfl;by_cases j:k<cnt b N
  ·obtain⟨n,y,u,q⟩:=Zmd b k N j;exact⟨n,by omega,u,q⟩
  ·by_cases he:ZaD N=b
   ·rw[if_pos he] at hs;exact⟨N,by omega,he,by omega⟩
   ·rw[if_neg he] at hs;omega
def kth_ex(k:Nat)(b:Bool):∃p,Zeh k b p:=by
 by_cases h:k<cnt b 11172
 ·obtain⟨n,u,q,j⟩:=Zmd b k _ h;exact⟨_,.inl ⟨n,u,q,j,rfl⟩⟩
 ·exact⟨0,.inr ⟨by omega,rfl⟩⟩
def Zjl(k:Int)(b:Bool):∃p,ZcJ k b p:=by
 by_cases h:k<0
 ·exact⟨0,.inl ⟨h,rfl⟩⟩
 ·obtain⟨p,j⟩:=kth_ex k.toNat b;exact⟨p,.inr ⟨by omega,j⟩⟩
def row_ex(j b:Int):∃p,Zct j b p:=by
 unfold Zct;by_cases q:b=255
 ·exact⟨0,by rw[if_pos q]⟩
 ·by_cases u:176<=j/\j<=200
  ·simp only[if_neg q,if_pos u];exact Zjl _ _
  ·exact⟨_,by rw[if_neg q,if_neg u]⟩
def Zv2{j b p q:Int}(y:Zct j b p)(u:Zct j b q):p=q:=by
 unfold Zct at y u;by_cases C:b=255
 ·rw[if_pos C] at y u;omega
 ·by_cases D:176<=j/\j<=200
  ·rw[if_neg C,if_pos D] at y u;exact Zjm y u
  ·rw[if_neg C,if_neg D] at y u;omega
def Zo9(j b:Int):∃p,Za4 j b p:=by
 unfold Za4;by_cases q:Zaw b<0\/j<129\/254<j
 ·exact⟨0,by rw[if_pos q]⟩
 ·by_cases u:j<161
  ·simp only[if_neg q,if_pos u];exact Zjl _ _
  ·by_cases y:b<161
   ·simp only[if_neg q,if_neg u,if_pos y];exact Zjl _ _
   ·simp only[if_neg q,if_neg u,if_neg y];exact row_ex _ _
def Zwz{j b p q:Int}(y:Za4 j b p)(u:Za4 j b q):p=q:=by
 unfold Za4 at y u;by_cases C:Zaw b<0\/j<129\/254<j
 ·rw[if_pos C] at y u;omega
 ·by_cases D:j<161
  ·rw[if_neg C,if_pos D] at y u;exact Zjm y u
  ·by_cases I:b<161
   ·rw[if_neg C,if_neg D,if_pos I] at y u;exact Zjm y u
   ·rw[if_neg C,if_neg D,if_neg I] at y u;exact Zv2 y u
def ZrP{j b p:Int}(h:Za4 j b p)(u:0<=j/\j<=255)(hb:0<=b/\b<=255)(w:World)(y:DB w):
 Calls prog 281 #[.int .u8 j,.int .u8 b] w λe w'=>e=.returned (.tuple #[.int .i32 p,.bool (p !=0)])/\Below w.heap.size w w':=
 (ZrO j b u hb w y).mono λe w' ⟨q,h1,h2,h3⟩=>by
  rw[Zwz h h2];exact⟨h1,h3⟩
def Zni:ZaD 11171=false:=by decide+kernel
def Zs9:cnt false 11171=8821:=by
 have h:cnt false 11172=cnt false 11171+(if ZaD 11171=false then 1 else 0):=rfl;rw[Zmf,Zni] at h;simp at h;omega
open Go
abbrev Zay:=List Int⊕Nat
def Za7(p:List Int):Zay->Zay
 | .inl l=>.inl (p++l)
 | .inr n=>.inr n
def Ztl(r:Zay):Za7 [] r=r:=by cases r<;>rfl
def Zmo(a b:List Int)(r:Zay):Za7 a (Za7 b r)=Za7 (a++b) r:=by cases r<;>simp[Za7]
def Zr(f:UInt8->UInt8->List Int):List UInt8->Nat->Zay
 |[],_=>.inl []
 |[a],i=>if a.toNat<128 then .inl [(a.toNat:Int)] else .inr i
 |a::b::q,i=>if a.toNat<128 then Za7 [(a.toNat:Int)] (Zr f (b::q) (i+1)) else if f a b=[] then .inr i else Za7 (f a b) (Zr f q (i+2))
section
variable (f:UInt8->UInt8->List Int)
theorem Ztn(l:List UInt8)(k:Nat)(h:k<l.length)(j:l[k].toNat<128):Zr f (l.drop k) k=Za7 [(l[k].toNat:Int)] (Zr f (l.drop (k+1)) (k+1)):=by
 rw[List.drop_eq_getElem_cons h];cases u:l.drop (k+1) with
 |nil=>simp[Zr,j,Za7]
 |cons b q=>simp[Zr,j]
theorem Ztp(l:List UInt8)(k:Nat)(h:k<l.length)(j:¬l[k].toNat<128)(q:l.length=k+1):Zr f (l.drop k) k=.inr k:=by
 rw[List.drop_eq_getElem_cons h,List.drop_of_length_le (by omega),Zr,if_neg j]
theorem Zto(l:List UInt8)(k:Nat)(h:k+1<l.length)(q:¬l[k].toNat<128)(j:f l[k] l[k+1]=[]):Zr f (l.drop k) k=.inr k:=by
 rw[List.drop_eq_getElem_cons (by omega),List.drop_eq_getElem_cons h,Zr,if_neg q,if_pos j]
theorem Ztq(l:List UInt8)(k:Nat)(h:k+1<l.length)(q:¬l[k].toNat<128)(j:f l[k] l[k+1]≠[]):Zr f (l.drop k) k=Za7 (f l[k] l[k+1]) (Zr f (l.drop (k+2)) (k+2)):=by
 rw[List.drop_eq_getElem_cons (by omega),List.drop_eq_getElem_cons h,Zr,if_neg q,if_neg j]
theorem Ztm(l:List UInt8)(k:Nat)(h:l.length<=k):Zr f (l.drop k) k=.inl []:=by
 rw[List.drop_of_length_le h,Zr]
theorem ZiQ(C:∀a b,∀p∈f a b,Zm p=true):∀(l:List UInt8) (i:Nat) (ps:List Int),Zr f l i=.inl ps->∀p∈ps,Zm p=true
 |[],_,ps,h,p,j=>by rw[Zr] at h;injection h with h;subst h;simp at j
 |[a],i,ps,h,p,j=>by
  rw[Zr] at h;split at h
  ·injection h with h;subst h;simp at j;subst j;rw[Zar];omega
  ·cases h
 |a::b::q,i,ps,h,p,j=>by
  rw[Zr] at h;split at h
  ·have y:=ZiQ C (b::q) (i+1);generalize Zr f (b::q) (i+1)=r at*;cases r with
   |inr n=>cases h
   |inl u=>
    injection h with h;subst h
    simp only[List.cons_append,List.nil_append,List.mem_cons] at j;rcases j with rfl|j
    ·rw[Zar];omega
    ·exact y u rfl p j
  ·split at h
   ·cases h
   ·have y:=ZiQ C q (i+2);generalize Zr f q (i+2)=r at*;cases r with
    |inr n=>cases h
    |inl u=>
     injection h with h;subst h
     rcases List.mem_append.1 j with j|j
     ·exact C a b p j
     ·exact y u rfl p j
theorem ZiO:∀(l:List UInt8) (i n:Nat),Zr f l i=.inr n->i<=n/\n<i+l.length
 |[],_,n,h=>by rw[Zr] at h;cases h
 |[a],i,n,h=>by
  rw[Zr] at h;split at h
  ·cases h
  ·injection h with h;subst h;simp
 |a::b::q,i,n,h=>by
  rw[Zr] at h;split at h
  ·have j:=ZiO (b::q) (i+1);generalize Zr f (b::q) (i+1)=r at*;cases r with
   |inl _=>cases h
   |inr m=>injection h with h;subst h;have:=j m rfl;simp only[List.length_cons] at*;omega
  ·split at h
   ·injection h with h;subst h;simp
   ·have j:=ZiO q (i+2);generalize Zr f q (i+2)=r at*;cases r with
    |inl _=>cases h
    |inr m=>injection h with h;subst h;have:=j m rfl;simp only[List.length_cons] at*;omega
end
def utfF:Nat->List UInt8->Nat->Zay
 |0,_,_=>.inl []
 |n+1,l,i=>if l=[] then .inl [] else if ZbR (ZA l) then .inr i else Za7 [((ZA l).1:Int)] (utfF n (l.drop (ZA l).2) (i+(ZA l).2))
def ZcX(l:List UInt8):Zay:=utfF l.length l 0
def Zkn:∀(n:Nat) (ps:List Int) (r:List UInt8) (i:Nat),(Zd ps++r).length<=n->(∀p∈ps,Zm p=true)->(r=[]\/ZbR (ZA r))->utfF n (Zd ps++r) i=if r=[] then .inl ps else .inr (i+(Zd ps).length)
 |0,ps,r,i,h,_,_=>by
  have h0:Zd ps++r=[]:=List.eq_nil_of_length_eq_zero (by omega);obtain⟨y,D⟩:=List.append_eq_nil_iff.1 h0;subst D;have:ps=[]:=by cases ps with|nil=>rfl|cons p ps=>rw[Za9] at y;exact absurd (List.append_eq_nil_iff.1 y).1 (ZiV p)
  subst this;rfl
 |n+1,[],r,i,h,_,q=>by
  rw[Zb0,List.nil_append,utfF];by_cases h0:r=[]
  ·rw[if_pos h0,if_pos h0]
  ·rw[if_neg h0,if_neg h0,if_pos (q.resolve_left h0)];rfl
 |n+1,p::ps,r,i,h,u,q=>by
  have j:=u p (List.mem_cons_self ..);have I:=ZcM p;rw[Za9,List.append_assoc] at h⊢;rw[utfF,if_neg (λe=>ZiV p (List.append_eq_nil_iff.1 e).1),if_neg (Zjw j _),Ze4 j];simp only;rw[List.drop_left,Zkn n ps r _ (by rw[List.length_append] at h;omega) (λx C=>u x (List.mem_cons_of_mem _ C)) q];have e:((p.toNat:Nat):Int)=p:=by rw[Zar] at j;omega
  rw[e];split
  ·rfl
  ·simp only[Za7,List.length_append];congr 1;omega
def Zxs{l:List UInt8}{ps:List Int}(h:Good ⟨l.toArray⟩ ps):ZcX l=.inl ps:=by
 have e:l=Zd ps++[]:=by simpa using h.1
 unfold ZcX;rw[e,Zkn _ ps [] 0 (by simp) h.2 (.inl rfl),if_pos rfl]
def Zxr{l:List UInt8}{n:Nat}(h:ZbP ⟨l.toArray⟩ n):ZcX l=.inr n:=by
 obtain⟨ps,r,C,y,u,q,j⟩:=h;have e:l=Zd ps++r:=by simpa using C
 unfold ZcX;rw[e,Zkn _ ps r 0 (by simp) y (.inr j),if_neg q,u,Nat.zero_add]
def Zd9(l:List UInt8):(∃ps,Good ⟨l.toArray⟩ ps/\ZcX l=.inl ps)\/∃n,ZbP ⟨l.toArray⟩ n/\ZcX l=.inr n:=by
 rcases Zuh ⟨l.toArray⟩ with⟨ps,h⟩|⟨n,h⟩
 ·exact .inl ⟨ps,h,Zxs h⟩
 ·exact .inr ⟨n,h,Zxr h⟩
def ZgB(big:Bool):Nat->List UInt8->Nat->Zay
 |0,_,_=>.inl []
 |n+1,l,i=>if l=[] then .inl [] else if(Zv big l).2=0 then .inr i else Za7 [(Zv big l).1] (ZgB big n (l.drop (Zv big l).2) (i+(Zv big l).2))
def ZbO(big:Bool)(l:List UInt8):Zay:=ZgB big l.length l 0
def Zkl(big:Bool):∀(n:Nat) (ps:List Int) (r:List UInt8) (i:Nat),(Zx big ps++r).length<=n->(∀p∈ps,Zm p=true)->(r=[]\/(Zv big r).2=0)->ZgB big n (Zx big ps++r) i=if r=[] then .inl ps else .inr (i+(Zx big ps).length)
 |0,ps,r,i,h,_,_=>by
  have h0:Zx big ps++r=[]:=List.eq_nil_of_length_eq_zero (by omega);obtain⟨u,D⟩:=List.append_eq_nil_iff.1 h0;subst D;have:ps=[]:=by cases ps with|nil=>rfl|cons p ps=>rw[ZeM] at u;exact absurd (List.append_eq_nil_iff.1 u).1 (Zpz big p)
  subst this;rfl
 |n+1,[],r,i,h,_,j=>by
  rw[ZfD,List.nil_append,ZgB];by_cases h0:r=[]
  ·rw[if_pos h0,if_pos h0]
  ·rw[if_neg h0,if_neg h0,if_pos (j.resolve_left h0)];rfl
 |n+1,p::ps,r,i,h,q,j=>by
  have y:=q p (List.mem_cons_self ..);have I:=ZgF big p;rw[ZeM,List.append_assoc] at h⊢;rw[ZgB,if_neg (λe=>Zpz big p (List.append_eq_nil_iff.1 e).1),ZpF big y,if_neg (by simp only;omega)];simp only;rw[List.drop_left,Zkl big n ps r _ (by rw[List.length_append] at h;omega) (λx C=>q x (List.mem_cons_of_mem _ C)) j];split
  ·rfl
  ·simp only[Za7,List.length_append];congr 1;omega
def Zxp{big:Bool}{l:List UInt8}{ps:List Int}(h:ZfR big ⟨l.toArray⟩ ps):ZbO big l=.inl ps:=by
 have e:l=Zx big ps++[]:=by simpa using h.1
 unfold ZbO;rw[e,Zkl big _ ps [] 0 (by simp) h.2 (.inl rfl),if_pos rfl]
def Zxo{big:Bool}{l:List UInt8}{n:Nat}(h:ZfQ big ⟨l.toArray⟩ n):ZbO big l=.inr n:=by
 obtain⟨ps,r,⟨C,y⟩,u,q,j⟩:=h;have e:l=Zx big ps++r:=by simpa using C
 unfold ZbO;rw[e,Zkl big _ ps r 0 (by simp) y (.inr j),if_neg q,u,Nat.zero_add]
def ZgA(big:Bool)(l:List UInt8):(∃ps,ZfR big ⟨l.toArray⟩ ps/\ZbO big l=.inl ps)\/∃n,ZfQ big ⟨l.toArray⟩ n/\ZbO big l=.inr n:=by
 rcases Zxz big ⟨l.toArray⟩ with⟨ps,h⟩|⟨n,h⟩
 ·exact .inl ⟨ps,h,Zxp h⟩
 ·exact .inr ⟨n,h,Zxo h⟩
def Zgu(c:UInt8):UInt8:=if 65<=c.toNat/\c.toNat<=90 then c+32 else c
def ZcU(l:List UInt8):List UInt8:=l.map Zgu
def Zch(c:Int):Int:=if c=1 then -1 else if 2<=c/\c<=20 then c - 2 else -2
def Zcl(c:Int):Int:=if c=2 then -1 else if 3<=c/\c<=7 then c - 3 else if 10<=c/\c<=15 then c - 5 else if 18<=c/\c<=23 then c - 7 else if 26<=c/\c<=29 then c - 9 else -2
def ZbS(c:Int):Int:=if 1<=c/\c<=17 then c - 1 else if 19<=c/\c<=29 then c - 2 else -2
def Zdp:List UInt8:=[65,66,100,67,102,103,68,69,70,106,107,108,109,110,111,112,71,72,73,115,74,75,76,77,78,79,80,81,82,83]
def Zbd(k:Nat):Int:=if Lib.indexByte Zdp (UInt8.ofNat k)<0 then 0 else 12593+Lib.indexByte Zdp (UInt8.ofNat k)
def sylZ(i m f:Int):Int:=44032+(i*21+m)*28+f
def Zgt(i m f:Int):Int:=
 if i≠ -1/\m≠ -1 then sylZ i m f else if i= -1/\m≠ -1/\f=0 then 12623+m else if i≠ -1/\m= -1/\f=0 then Zbd (65+i.toNat) else if i= -1/\m= -1/\f≠0 then Zbd (97+f.toNat) else 0
def ZaX(n:Int):Int:=
 if n<32768\/Zch (n / 1024 % 32)= -2\/Zcl (n / 32 % 32)= -2\/ZbS (n % 32)= -2 then 0 else Zgt (Zch (n / 1024 % 32)) (Zcl (n / 32 % 32)) (ZbS (n % 32))
def Znf(c:Int): -2<=Zch c/\Zch c<=18:=by unfold Zch;(repeat' split)<;>omega
def ZnA(c:Int): -2<=Zcl c/\Zcl c<=20:=by unfold Zcl;(repeat' split)<;>omega
def ZmN(c:Int):ZbS c= -2\/(0<=ZbS c/\ZbS c<=27):=by unfold ZbS;(repeat' split)<;>omega
def Zmj(k:Nat)(j:k<256):Zbd k=0\/(12593<=Zbd k/\Zbd k<=12622):=by
 have h:(List.range 256).all (λk=>decide (Zbd k=0\/(12593<=Zbd k/\Zbd k<=12622)))=true:=by decide+kernel
 have:=List.all_eq_true.1 h k (List.mem_range.2 j);simpa using this
def ZuD(n:Int):ZaX n=0\/(12593<=ZaX n/\ZaX n<=12643)\/(44032<=ZaX n/\ZaX n<=55203):=by
 have D:=Znf (n / 1024 % 32);have C:=ZnA (n / 32 % 32);have u:=ZmN (n % 32);unfold ZaX;generalize Zch (n / 1024 % 32)=i at*;generalize Zcl (n / 32 % 32)=m at*;generalize ZbS (n % 32)=f at*;by_cases hb:n<32768\/i= -2\/m= -2\/f= -2
 ·rw[if_pos hb];exact .inl rfl
 ·rw[if_neg hb];have q:=Zmj (65+i.toNat) (by omega);have j:=Zmj (97+f.toNat) (by omega);unfold Zgt sylZ;generalize Zbd (65+i.toNat)=x at*;generalize Zbd (97+f.toNat)=y at*
  (repeat' split)<;>omega
def Znm(n:Int)(h:ZaX n≠0):Zm (ZaX n)=true:=by
 have:=ZuD n;rw[Zar];omega
def Zam(b:Int):Int:=if 64<=b/\b<=126 then b - 64 else if 161<=b/\b<=254 then b - 161+63 else -1
def Zwq(c:Int):Int:=if c<63 then 64+c else 161+c - 63
def B0:List Int:=[
 256,193,461,192,274,201,282,200,332,211,465,210]
def B1:List Int:=[
 7870]
def B2:List Int:=[
 7872,202,257,225,462,224,593,275,233,283,232,299,237,464,236,333]
def B3:List Int:=[
 243,466,242,363,250,468,249,470,472,474]
def B4:List Int:=[
 476,252]
def B5:List Int:=[
 7871]
def B6:List Int:=[
 7873,234,609]
def B7:List Int:=[
 12288,65292,12289,12290,65294,8226,65307,65306,65311,65281,65072,8230,8229,65104,65380,65106,183,65108,65109,65110,
 65111,65372,8211,65073,8212,65075,9588,65076,65103,65288,65289,65077,65078,65371,65373,65079,65080,12308,12309,65081,
 65082,12304,12305,65083,65084,12298,12299,65085,65086,12296,12297,65087,65088,12300,12301,65089,65090,12302,12303,65091,
 65092,65113,65114,65115,65116,65117,65118,8216,8217,8220,8221,12317,12318,8245,8242,65283,65286,65290,8251,167,
 12291,9675,9679,9651,9650,9678,9734,9733,9671,9670,9633,9632,9661,9660,12963,8453,8254,65507,65343,717,
 65097,65098,65101,65102,65099,65100,65119,65120,65121,65291,65293,215,247,177,8730,65308,65310,65309,8806,8807,
 8800,8734,8786,8801,65122,65123,65124,65125,65126,8764,8745,8746,8869,8736,8735,8895,13266,13265,8747,8750,
 8757,8756,9792,9794,9793,9737,8593,8595,8592,8594,8598,8599,8601,8600,8741,8739,65295]
def B8:List Int:=[
 65367,65368,65369,65370,913,914,915,916,917,918,919,920,921,922,923,924,925,926,927,928,
 929,931,932,933,934,935,936,937,945,946,947,948,949,950,951,952,953,954,955,956,
 957,958,959,960,961,963,964,965,966,967,968,969,12549,12550,12551,12552,12553,12554,12555,12556,
 12557,12558,12559,12560,12561,12562,12563,12564,12565,12566,12567,12568,12569,12570,12571,12572,12573,12574,12575,12576,
 12577,12578,12579,12580,12581,12582,12583,12584,12585,729,713,714,711,715]
def B9:List Int:=[
 19968,20057,19969,19971,20035,20061,20102,20108,20154,20799,20837,20843,20960,20992,20993,21147,21269,21313,21340,21448,
 19977,19979,19976,19978,20011,20024,20961,20037,20040,20063,20062,20110,20129,20800,20995,21242,21315,21449,21475,22303,
 22763,22805,22823,22899,23376,23377,23379,23544,23567,23586,23608,23665,24029,24037,24049,24050,24051,24062,24178,24318,
 24331,24339,25165,19985,19984,19981,20013,20016,20025,20043,23609,20104,20113,20117,20114,20116,20130,20161,20160,20163,
 20166,20167,20173,20170,20171,20164,20803,20801,20839,20845,20846,20844,20887,20982,20998,20999,21000,21243,21246,21247,
 21270,21305,21320,21319,21317,21342,21380,21451,21450,21453,22764,22825,22827,22826,22829,23380,23569,23588,23610,23663,
 24052,24187,24319,24340,24341,24515,25096,25142,25163,25166,25903,25991,26007,26020,26041,26085,26352,26376,26408,27424,
 27490,27513,27595,27604,27611,27663,27700,28779,29226,29238,29243,29255,29273,29275,29356,29579,19993]
def B10:List Int:=[
 19990,19989,19988,19992,20027,20045,20047,20046,20197,20184,20180,20181,20182,20183,20195,20196,20185,20190,20805,20804,
 20873,20874,20908,20985,20986,20984,21002,21152,21151,21253,21254,21271,21277,20191,21322,21321,21345,21344,21359,21358,
 21435,21487,21476,21491,21484,21486,21481,21480,21500,21496,21493,21483,21478,21482,21490,21489,21488,21477,21485,21499,
 22235,22234,22806,22830,22833,22900,22902,23381,23427,23612,24040,24039,24038,24066,24067,24179,24188,24321,24344,24343,
 24517,25098,25171,25172,25170,25169,26021,26086,26414,26412,26410,26411,26413,27491,27597,27665,27664,27704,27713,27712,
 27710,29359,29572,29577,29916,29926,29976,29983,29992,29993,30000,30001,30002,30003,30091,30333,30382,30399,30446,30683,
 30690,30707,31034,31166,31348,31435,19998,19999,20050,20051,20073,20121,20132,20134,20133,20223,20233,20249,20234,20245,
 20237,20240,20241,20239,20210,20214,20219,20208,20211,20221,20225,20235,20809,20807,20806,20808,20840]
def SP:List (Int×Int×List Int):=[(136,86,B0),(136,99,B1),(136,101,B2),(136,117,B3),(136,161,B4),(136,164,B5),(136,166,B6),(161,64,B7),(163,64,B8),(164,64,B9),(165,64,B10)]
def R136:List Int:=List.replicate 22 63++B0++List.replicate 1 63++B1++List.replicate 1 63++B2++B3++B4++List.replicate 1 63++B5++List.replicate 1 63++B6
def R161:List Int:=B7
def R163:List Int:=B8
def R164:List Int:=B9
def R165:List Int:=B10
def Zb3(c:UInt8):Nat:=if c.toNat<58 then c.toNat - 48 else c.toNat - 55
def Ze6(c:UInt8):Bool:=Nat.ble 48 c.toNat&&Nat.ble c.toNat 57||Nat.ble 65 c.toNat&&Nat.ble c.toNat 70
def Zc9:List UInt8->List Int->Bool
 |a::b::c::d::e::r,p::ps=>Ze6 a&&Ze6 b&&Ze6 c&&Ze6 d&&Nat.beq e.toNat 32&&decide (p=(Zb3 a*4096+Zb3 b*256+Zb3 c*16+Zb3 d:Nat))&&Zc9 r ps
 |[],[]=>true
 |_,_=>false
def Zha{c:UInt8}(h:Ze6 c=true):Zb3 c<16/\Zc7 (Zb3 c:Int)=c:=by
 have h':(48<=c.toNat/\c.toNat<=57)\/(65<=c.toNat/\c.toNat<=70):=by simpa[Ze6,Nat.ble_eq] using h
 have hb:=c.toNat_lt;rcases h' with h'|h'
 ·have e:Zb3 c=c.toNat - 48:=by unfold Zb3;rw[if_pos (by omega)]
  refine⟨by omega,?_⟩;unfold Zc7;rw[if_pos (by omega),e];have:(48+((c.toNat - 48:Nat):Int)).toNat=c.toNat:=by omega
  rw[this];simp
 ·have e:Zb3 c=c.toNat - 55:=by unfold Zb3;rw[if_neg (by omega)]
  refine⟨by omega,?_⟩;unfold Zc7;rw[if_neg (by omega),e];have:(55+((c.toNat - 55:Nat):Int)).toNat=c.toNat:=by omega
  rw[this];simp
def Znc:∀(l:List UInt8) (ps:List Int),Zc9 l ps=true->l=Zc8 ps
 |a::b::c::d::e::r,p::ps,h=>by
  simp only[Zc9,Bool.and_eq_true,decide_eq_true_eq] at h;obtain⟨⟨⟨⟨⟨⟨I,D⟩,C⟩,y⟩,u⟩,X⟩,q⟩:=h;have j:=Znc r ps q;obtain⟨Z,W⟩:=Zha I;obtain⟨b1,V⟩:=Zha D;obtain⟨Y,c2⟩:=Zha C;obtain⟨d1,d2⟩:=Zha y;have U:e=32:=by
   have:=Nat.eq_of_beq_eq_true u;exact UInt8.toNat_inj.1 this
  have O:p / 4096=(Zb3 a:Int):=by omega
  have N:p / 256 % 16=(Zb3 b:Int):=by omega
  have L:p / 16 % 16=(Zb3 c:Int):=by omega
  have J:p % 16=(Zb3 d:Int):=by omega
  rw[Zi8,Zcb,O,N,L,J,W,V,c2,d2,<-j,U];rfl
 |[],[],_=>rfl
 |[],_::_,h=>by simp[Zc9] at h
 |_::_,[],h=>by simp[Zc9] at h
 |[_],_::_,h=>by simp[Zc9] at h
 |[_,_],_::_,h=>by simp[Zc9] at h
 |[_,_,_],_::_,h=>by simp[Zc9] at h
 |[_,_,_,_],_::_,h=>by simp[Zc9] at h
def Zmh(j:Int):Int->List Int->List (Int×Int)
 |_,[]=>[]
 |c,p::ps=>(j*256+Zwq c,p)::Zmh j (c+1) ps
def ZiY:List (Int×Int×List Int)->List (Int×Int)
 |[]=>[]
 |t::l=>Zmh t.1 (Zam t.2.1) t.2.2++ZiY l
def RL:List (Int×Int×List Int):=[(136,64,R136),(161,64,R161),(163,64,R163),(164,64,R164),(165,64,R165)]
def Zbf:List (Int×Int×List Int)->Int->Int->Int
 |[],_,_=>0
 |t::l,j,c=>if t.1=j/\0<=c - Zam t.2.1/\c - Zam t.2.1<t.2.2.length then t.2.2.getD (c - Zam t.2.1).toNat 0 else Zbf l j c
def ZiZ:ZiY SP=(ZiY RL).filter λt=>decide (t.2≠63):=by decide+kernel
def ZsZ(b:Int): -1<=Zam b/\Zam b<157:=by unfold Zam;repeat' split;all_goals omega
def ZwE:SP.all (λt=>t.2.2.all λp=>decide (128<p/\p<=65535/\(p<55296\/57343<p)))=true:=by decide+kernel
def Zj7{t:Int×Int×List Int}(j:t∈SP):∀p∈t.2.2,128<p/\p<=65535/\(p<55296\/57343<p):=by
 intro p q;have:=List.all_eq_true.1 (List.all_eq_true.1 ZwE t j) p q;simpa using this
def ZmZ{l:List Int}{k:Nat}(h:k<l.length):l.getD k 0∈l:=by
 rw[List.getD_eq_getElem?_getD,List.getElem?_eq_getElem h];simp
def Zve{l:List (Int×Int×List Int)}(q:∀t∈l,t∈SP)(j c:Int):
 Zbf l j c=0\/(128<Zbf l j c/\Zbf l j c<=65535/\(Zbf l j c<55296\/57343<Zbf l j c)):=by
 induction l with
 |nil=>exact Or.inl rfl
 |cons t l u=>
  simp only[Zbf];split
  ·rename_i D
   have C:t.2.2.getD (c - Zam t.2.1).toNat 0∈t.2.2:=ZmZ (by omega);exact Or.inr (Zj7 (q t (by simp)) _ C)
  ·exact u λx y=>q x (by simp[y])
