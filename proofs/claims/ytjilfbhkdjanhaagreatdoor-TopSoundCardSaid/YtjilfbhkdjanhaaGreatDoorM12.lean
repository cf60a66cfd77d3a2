/- Lemmas for a statement on the tops; conditions: as each says. -/
import Derived.Laws.Bits64b
import Derived.Deep.DeepCutAuto
import Derived.Test.YtjilfbhkdjanhaaGreatDoorM11
set_option linter.all false
set_option maxRecDepth 100000
set_option maxHeartbeats 4000000
open Go.Proofs.Tryz
namespace Go.Proofs.YtjilfbhkdjanhaaGreatDoor
open Go Go.RowKit
def ZeI(N:Nat):Nat->List UInt8
 |0=>[]
 |j+1=>UInt8.ofNat (N / 128^j % 128)::ZeI N j
def Zwn(N:Nat):ZeI N 4=Zaq N:=by simp[ZeI,Zaq]
def u8_of7(M:Nat):u8V (UInt8.ofNat (M % 128))=.int .u8 ((M:Int) % 128):=by
 unfold u8V;rw[UInt8.toNat_ofNat'];congr 1;omega
def ZsG(M:Nat)(h:M<18446744073709551616):bits .and .u64 (M:Int) 127=(M:Int) % 128:=by
 have:=bits_and_u64_nat M 127 h (by decide);rw[show M&&&127=M % 128 from Nat.and_two_pow_sub_one_eq_mod M 7] at this;rw[show((127:Nat):Int)=127 from rfl] at this;rw[this];omega
def SvRel(N:Nat)(w0:World)(n i:Value)(wr:World):Prop:=∃m j:Nat,m+j=4/\n=.int .u64 ((N / 128^j:Nat):Int)/\((m=0/\i=.int .i64 (-1))\/∃q:Nat,m=q+1/\i=.int .i64 q)/\
 wr.ownsRow w0.heap.size 5 1 (.slice (some ⟨w0.heap.size,0,none⟩) 4 4) 4 ((List.replicate m 0++ZeI N j).map u8V)/\Below w0.heap.size w0 wr
def ZfJ(N:Nat)(hN:N<268435456)(w:World):
 Calls prog 159 #[.int .u64 N] w λe w'=>e=.returned (.tuple #[.string (B (Zaq N)),.bool true])/\Below w.heap.size w w':=by
 obtain⟨i0,hi,U,O,L⟩:=info_parts ZeK;go_enter func159,ntmps159
 go_wp2_with (at_make;refine wpList_make_full _ rfl _ _ 110 rfl w.heap.size 5 i0 (.int .u8 0) 1 underlying110 hi U O .i64 .i64 4 4 4 rfl rfl rfl rfl (by rw[L];omega) (by unfold maxLen;omega) NL ?_;intro w1 D W)
 have Y:Below w.heap.size w w1:=(Below.refl _ w).grown W NL (λk h=>by cases h);go_loopw [0,5] (λn i wr=>SvRel N w n i wr) (λ_ i _=>(intOf i+1).toNat)
 case atStart=>
  refine⟨4,0,rfl,by simp,.inr ⟨3,rfl,rfl⟩,?_,Y⟩;have e:(madeCells (Value.int .u8 0).cells (4*1)).toList=((List.replicate 4 0++ZeI N 0).map u8V:List Value):=by
   rw[Nat.mul_one,show(Value.int .u8 0).cells=#[.int .u8 0] from rfl,toList_madeCells_one];simp[ZeI,u8V]
  rw[<-e];exact D
 case round=>
  obtain⟨m,j,ae,rfl,V,y,hb⟩:=hrel;have hz:=hb.size;rcases V with⟨rfl,rfl⟩|⟨q,rfl,rfl⟩
  ·have hj:j=4:=by omega
   subst hj;rw[List.replicate_zero,List.nil_append,Zwn] at y;have ak:=ZfZ wr y;clear y;go_wp2_with fail
   go_ret2
   exact⟨rfl,hb⟩
  ·have I:∃u,wr.cell? ⟨w.heap.size,q,none⟩=some u:=by
    have hl:=y.1;exact⟨_,by rw[y.cellAt q (by omega),List.getElem?_eq_getElem (by omega)]⟩
   obtain⟨u,I⟩:=I;have aj:=y.frozenAt q;have ai:w.heap.size<wr.heap.size:=World.block_lt_of_cell? _ _ I;have C:=(y.stored q (u8V (UInt8.ofNat (N / 128^j % 128)))).1;rw[<-List.map_set,ZjV,u8_of7] at C;have Z:=QQ C;have X:N / 128^j<18446744073709551616:=Nat.lt_of_le_of_lt (Nat.div_le_self _ _) (by omega);have hM:N / 128^(j+1)=N / 128^j / 128:=by rw[Nat.pow_succ,Nat.div_div_eq_div_mul]
   have HM:=QQ hM;clear C y hM;generalize J:N / 128^j=M at*;have aa:=QQ J;have am:=ZsG M X;clear J;go_wp2_with fail
   go_roundw
   case rel=>
    refine⟨q,j+1,by omega,by rw[HM.out];go_num,Zj8 q,?_,hb.setCell (p:=⟨w.heap.size,q,none⟩) NL _⟩;have:=Z.out;rw[ZeI,aa.out];exact this
   case measure=>simp[intOf]
def ZaV(t:List UInt8)(i:Nat)(h:i<t.length):(B t)[i]'(by rw[Zj];exact h)=t[i]:=by simp[B];rfl
def ZuS(t:List UInt8)(i:Nat)(h:i<t.length):looksAt t i=Zgb t[i] (t.drop (i+1)):=by
 unfold looksAt;rw[List.drop_eq_getElem_cons h]
def Zk4(t:List UInt8)(i:Nat)(J:i<t.length)(X:t.length<=1000000000)(w:World):
 Calls prog 292 #[.string (B t),.int .i64 i] w λe w'=>e=.returned (.bool (looksAt t i))/\w=w':=by
 have U:=Zj t;have Y:=ZaV t i J;have j:=ZuS t i J;by_cases y:t[i]=255
 ·have I:(t[i].toNat:Int)=255:=by rw[y];rfl
  by_cases W:i+1=t.length
  ·have q:looksAt t i=true:=by
    rw[j,y,W,List.drop_length];rfl
   have hd:(((i:Int)+1)==(t.length:Int))=true:=by rw[beq_iff_eq];omega
   have C:=QQ q;clear q j y;go_enter func292,ntmps292
   go_wp2_with fail
   go_ret
   exact⟨by rw[C.out];rfl,rfl⟩
  ·have V:=ZaV t (i+1) (by omega);have hd:(((i:Int)+1)==(t.length:Int))=false:=by rw[beq_eq_false_iff_ne];omega
   have u:looksAt t i=(t[i+1]==0||decide (224<=t[i+1].toNat)):=by
    rw[j,y,List.drop_eq_getElem_cons (show i+1<t.length by omega)];rfl
   by_cases D:t[i+1]=0
   ·have N:(t[i+1].toNat:Int)=0:=by rw[D];rfl
    have q:looksAt t i=true:=by rw[u,D];rfl
    have C:=QQ q;clear q j y u D;go_enter func292,ntmps292
    go_wp2_with fail
    go_ret
    exact⟨by rw[C.out];rfl,rfl⟩
   ·have N:((t[i+1].toNat:Int)==0)=false:=by rw[beq_eq_false_iff_ne];exact λe=>D (UInt8.toNat_inj.1 (by show t[i+1].toNat=0;omega))
    have q:looksAt t i=decide (224<=(t[i+1].toNat:Int)):=by
     rw[u,show(t[i+1]==0)=false by simpa using D,Bool.false_or];congr 1;exact propext (by omega)
    have C:=QQ q;clear q j y u D;by_cases L:224<=(t[i+1].toNat:Int)
    ·go_enter func292,ntmps292
     go_wp2_with fail
     go_ret
     exact⟨by rw[C.out];simp[L],rfl⟩
    ·go_enter func292,ntmps292
     go_wp2_with fail
     go_ret
     exact⟨by rw[C.out];simp[L],rfl⟩
 ·have I:((t[i].toNat:Int)==255)=false:=by rw[beq_eq_false_iff_ne];exact λe=>y (UInt8.toNat_inj.1 (by show t[i].toNat=255;omega))
  have O:((t[i].toNat:Int) !=255)=true:=by rw[bne,I];rfl
  have q:looksAt t i=false:=by rw[j];unfold Zgb;rw[show(t[i]==255)=false by simpa using y];rfl
  have C:=QQ q;clear q j y;go_enter func292,ntmps292
  go_wp2_with fail
  go_ret
  exact⟨by rw[C.out];rfl,rfl⟩
def ExRel(t:List UInt8)(n i:Value):Prop:=∃k m:Nat,k<=t.length/\i=.int .i64 k/\n=.int .i64 m/\ZaK t=m+ZaK (t.drop k)
def Zic(t:List UInt8)(N:t.length<=1000000000)(w:World):
 Calls prog 237 #[.string (B t)] w λe w'=>e=.returned (.int .i64 (ZaK t))/\w=w':=by
 have O:=Zj t;have I:=ZdQ t;go_enter func237,ntmps237
 go_wp2_with fail
 go_loop [3,7] (λn i=>ExRel t n i) (λ_ i=>t.length - (intOf i).toNat)
 case atStart=>exact⟨0,0,by omega,rfl,rfl,by simp⟩
 case round=>
  obtain⟨k,m,W,rfl,rfl,he⟩:=hrel;by_cases C:k<t.length
  ·have j:=ZtP t k C;have u:=λw=>Zk4 t k C N w;by_cases hb:looksAt t k=true
   ·rw[hb] at u j;rw[if_pos rfl] at j;have q:ZaK t=(m+1)+ZaK (t.drop (k+1)):=by omega
    have V:m<1000000000:=by omega
    have y:=QQ q;clear he q j hb;go_wp2_with (go_at_call 292;refine(u _).mono ?_;rintro e L ⟨rfl,rfl⟩)
    go_round
    case rel=>exact⟨k+1,m+1,by omega,by go_num,by go_num,y⟩
    case measure=>simp[intOf];omega
   ·have D:looksAt t k=false:=by simpa using hb
    rw[D] at u j;rw[if_neg (by decide)] at j;have q:ZaK t=m+ZaK (t.drop (k+1)):=by omega
    have y:=QQ q;clear he q j hb D;go_wp2_with (go_at_call 292;refine(u _).mono ?_;rintro e L ⟨rfl,rfl⟩)
    go_round
    case rel=>exact⟨k+1,m,by omega,by go_num,rfl,y⟩
    case measure=>simp[intOf];omega
  ·have J:k=t.length:=by omega
   subst J;rw[List.drop_length,ZaK,Nat.add_zero] at he;have U:=QQ he;clear he I;go_wp2_with fail
   go_ret
   exact⟨by rw[U.out];rfl,rfl⟩
def PtRel(t:List UInt8)(w0:World)(v i:Value)(wr:World):Prop:=∃(k:Nat) (j:List UInt8),k<=t.length/\i=.int .i64 k/\Zag t=j++Zag (t.drop k)/\
 wr.ownsRow w0.heap.size 5 1 v j.length (j.map u8V)/\Below w0.heap.size w0 wr
def Zlf(t:List UInt8)(ht:t.length<=1000000000)(w:World):
 Calls prog 238 #[.string (B t)] w λe w'=>e=.returned (.string (B (Zag t)))/\Below w.heap.size w w':=by
 obtain⟨i0,hi,ac,ab,aa⟩:=info_parts ZeK;have au:=Zj t;have ay:=ZdQ t;have ad:=ZeB t;have ah:=λw=>Zic t ht w;have J:(Zag t).length<=2000000000:=by omega
 have X:=QQ J;clear ad J;generalize ZaK t=E at*;go_enter func238,ntmps238
 go_wp2_with (first|(go_at_call 237;refine(ah _).mono ?_;rintro e Y ⟨rfl,rfl⟩)|(at_make;refine wpList_make_own _ rfl _ _ 110 rfl w.heap.size 5 i0 (.int .u8 0) 1 underlying110 hi ac ab .i64 .i64 ((t.length:Int)+E) (t.length+E) rfl rfl (by omega) (by rw[aa];omega) (by unfold maxLen;omega) NL ?_;intro Y L af))
 have ai:Below w.heap.size w Y:=(Below.refl _ w).grown af NL (λk h=>by cases h);go_loopw [3,13] (λv i wr=>PtRel t w v i wr) (λ_ i _=>t.length - (intOf i).toNat)
 case atStart=>exact⟨0,[],by omega,rfl,by simp,L,ai⟩
 case round=>
  obtain⟨k,u,hk,rfl,he,j,hb⟩:=hrel;have hz:=hb.size;by_cases N:k<t.length
  ·have q:=ZvW t k N;have hg:=ZaV t k N;have aw:u.length<=2000000000:=by
    have:=X.out;rw[he,List.length_append] at this;omega
   have D:=λw=>Zk4 t k N ht w;by_cases Z:looksAt t k=true
   ·rw[Z] at D q;rw[if_pos rfl] at q;have y:Zag t=(u++[t[k]]++[0])++Zag (t.drop (k+1)):=by rw[he,q];simp
    have O:=QQ y;clear he y q Z;go_wp2_with (first|(go_at_call 292;refine(D _).mono ?_;rintro e Y ⟨rfl,rfl⟩)|(at_builtin;refine Zel rfl _ _ rfl w.heap.size u3 u rfl wr _ _ rfl j (by omega) (by omega) rfl ?_;intro v6 w6 U C;have I:=QQ (hb.trans C);have aq:=I.size;clear C j)|(at_builtin;refine Zel rfl _ _ rfl w.heap.size v6 (u++[t[k]]) rfl w6 0 _ rfl U (by omega) (by simp;omega) rfl ?_;intro v7 w7 aj W;have ak:=QQ (I.trans W);clear W))
    go_roundw
    case rel=>exact⟨k+1,_,by omega,by go_num,O,aj,ak⟩
    case measure=>simp[intOf];omega
   ·have V:looksAt t k=false:=by simpa using Z
    rw[V] at D q;rw[if_neg (by decide)] at q;have y:Zag t=(u++[t[k]])++Zag (t.drop (k+1)):=by rw[he,q];simp
    have O:=QQ y;clear he y q Z V;go_wp2_with (first|(go_at_call 292;refine(D _).mono ?_;rintro e Y ⟨rfl,rfl⟩)|(at_builtin;refine Zel rfl _ _ rfl w.heap.size u3 u rfl wr _ _ rfl j (by omega) (by omega) rfl ?_;intro v6 w6 U C;have I:=QQ (hb.trans C);clear C j))
    go_roundw
    case rel=>exact⟨k+1,_,by omega,by go_num,O,U,I⟩
    case measure=>simp[intOf];omega
  ·have ae:k=t.length:=by omega
   subst ae;rw[List.drop_length,Zag,List.append_nil] at he;have He:=QQ he;have az:=ZfZ wr j;clear he j;go_wp2_with fail
   go_ret
   exact⟨by rw[He.out];rfl,hb⟩
def Zcg(t:List UInt8)(k:Nat):Bool:=decide (0<k)&&(t[k - 1]? ==some 255)
def DrRel(t:List UInt8)(w0:World)(v i:Value)(wr:World):Prop:=∃(k:Nat) (j:List UInt8),k<=t.length/\i=.int .i64 k/\j.length<=k/\Zae false t=j++Zae (Zcg t k) (t.drop k)/\
 wr.ownsRow w0.heap.size 5 1 v j.length (j.map u8V)/\Below w0.heap.size w0 wr
def ZtY(t:List UInt8)(k:Nat)(h:k<t.length):Zcg t (k+1)=(t[k]==255):=by
 simp[Zcg,h]
def ZkQ(t:List UInt8)(ht:t.length<=1000000000)(w:World):
 Calls prog 23 #[.string (B t)] w λe w'=>e=.returned (.string (B (Zae false t)))/\Below w.heap.size w w':=by
 obtain⟨i0,hi,ac,ab,aa⟩:=info_parts ZeK;have ao:=Zj t;go_enter func23,ntmps23
 go_wp2_with (at_make;refine wpList_make_own _ rfl _ _ 110 rfl w.heap.size 5 i0 (.int .u8 0) 1 underlying110 hi ac ab .i64 .i64 (t.length:Int) t.length rfl rfl rfl (by rw[aa];omega) (by unfold maxLen;omega) NL ?_;intro w1 W ah)
 have ai:Below w.heap.size w w1:=(Below.refl _ w).grown ah NL (λk h=>by cases h);go_loopw [3,10] (λv i wr=>DrRel t w v i wr) (λ_ i _=>t.length - (intOf i).toNat)
 case atStart=>exact⟨0,[],by omega,rfl,by simp,by simp[Zcg],W,ai⟩
 case round=>
  obtain⟨k,y,hk,rfl,ap,he,j,hb⟩:=hrel;have hz:=hb.size;by_cases X:k<t.length
  ·have C:=Ztv (Zcg t k) t k X;have D:=ZtY t k X;have hg:=ZaV t k X;by_cases J:t[k]=0
   ·have V:(t[k].toNat:Int)=0:=by rw[J];rfl
    by_cases U:Zcg t k=true
    ·have Y:0<k:=by
      simp only[Zcg,Bool.and_eq_true,decide_eq_true_eq] at U;exact U.1
     have Z:t[k - 1]'(by omega)=255:=by
      simp only[Zcg,Bool.and_eq_true,decide_eq_true_eq] at U;have:=U.2;rw[List.getElem?_eq_getElem (by omega)] at this;simpa using this
     have af:=ZaV t (k - 1) (by omega);have ad:((t[k - 1]'(by omega)).toNat:Int)=255:=by rw[Z];rfl
     have q:Zae false t=y++Zae (Zcg t (k+1)) (t.drop (k+1)):=by
      rw[he,C,U,J,D,J];rfl
     have I:=QQ q;clear he q C D J U Z;go_wp2_with fail
     go_roundw
     case rel=>exact⟨k+1,y,by omega,by go_num,by omega,I,j,hb⟩
     case measure=>simp[intOf];omega
    ·have L:Zcg t k=false:=by simpa using U
     have q:Zae false t=(y++[t[k]])++Zae (Zcg t (k+1)) (t.drop (k+1)):=by
      rw[he,C,L,J,D,J];simp
     have I:=QQ q;by_cases Y:k=0
     ·subst Y;clear he q C D J U L;go_wp2_with (at_builtin;refine Zel rfl _ _ rfl w.heap.size u3 y rfl wr (t[0]) _ (by first|rfl|simp[u8V,V]) j (by omega) (by omega) rfl ?_;intro v6 w6 N u;have O:=QQ (hb.trans u);clear u j)
      go_roundw
      case rel=>exact⟨0+1,_,by omega,by go_num,by rw[List.length_append,List.length_singleton];omega,I,N,O⟩
      case measure=>show t.length - (intOf (.int .i64 (0+1))).toNat<t.length - (intOf (.int .i64 0)).toNat;simp only[intOf];omega
     ·have Z:(t[k - 1]'(by omega))≠255:=by
       intro e;simp only[Zcg,Bool.and_eq_false_iff,decide_eq_false_iff_not] at L;rcases L with h|h
       ·omega
       ·rw[List.getElem?_eq_getElem (by omega),e] at h;simp at h
      have ad:(((t[k - 1]'(by omega)).toNat:Int)==255)=false:=by rw[beq_eq_false_iff_ne];exact λe=>Z (UInt8.toNat_inj.1 (by show(t[k - 1]'(by omega)).toNat=255;omega))
      have af:=ZaV t (k - 1) (by omega);have aq:0<k:=by omega
      clear he q C D J U L Z Y;go_wp2_with (at_builtin;refine Zel rfl _ _ rfl w.heap.size u3 y rfl wr (t[k]) _ (by first|rfl|simp[u8V,V]) j (by omega) (by omega) rfl ?_;intro v6 w6 N u;have O:=QQ (hb.trans u);clear u j)
      go_roundw
      case rel=>exact⟨k+1,_,by omega,by go_num,by simp;omega,I,N,O⟩
      case measure=>simp[intOf];omega
   ·have V:((t[k].toNat:Int)==0)=false:=by rw[beq_eq_false_iff_ne];exact λe=>J (UInt8.toNat_inj.1 (by show t[k].toNat=0;omega))
    have q:Zae false t=(y++[t[k]])++Zae (Zcg t (k+1)) (t.drop (k+1)):=by
     rw[he,C,D,show(t[k]==0)=false by simpa using J];simp
    have I:=QQ q;clear he q C D J;go_wp2_with (at_builtin;refine Zel rfl _ _ rfl w.heap.size u3 y rfl wr (t[k]) _ rfl j (by omega) (by omega) rfl ?_;intro v6 w6 N u;have O:=QQ (hb.trans u);clear u j)
    go_roundw
    case rel=>exact⟨k+1,_,by omega,by go_num,by simp;omega,I,N,O⟩
    case measure=>simp[intOf];omega
  ·have ae:k=t.length:=by omega
   subst ae;rw[List.drop_length,Zae,List.append_nil] at he;have He:=QQ he;have aw:=ZfZ wr j;clear he j;go_wp2_with fail
   go_ret
   exact⟨by rw[He.out];rfl,hb⟩
def ZcK(m:UInt8)(z:Int)(c:UInt8)(j:z=c.toNat):bits .and .u8 (m.toNat:Int) z=((m&&&c).toNat:Int):=by
 subst j;have:=(bits_nat .u8 8 (by decide) (λn h0 q=>by rw[IntKind.wrap_u8];omega) m.toNat c.toNat m.toNat_lt c.toNat_lt).1;rw[this,UInt8.toNat_and]
def or_u8(m:UInt8)(z:Int)(c:UInt8)(j:z=c.toNat):bits .or .u8 (m.toNat:Int) z=((m|||c).toNat:Int):=by
 subst j;have:=(bits_nat .u8 8 (by decide) (λn h0 q=>by rw[IntKind.wrap_u8];omega) m.toNat c.toNat m.toNat_lt c.toNat_lt).2;rw[this,UInt8.toNat_or]
def ZdV(x:UInt8):((x.toNat:Int) !=0)=(x !=0):=by
 by_cases h:x=0
 ·subst h;rfl
 ·have j:x.toNat≠0:=λe=>h (UInt8.toNat_inj.1 e);rw[show(x !=0)=true by simpa using h,bne_iff_ne];omega
def Zdx(m c:UInt8)(k:Nat)(j:c.toNat=k):(((m.toNat&&&k:Nat):Int) !=0)=(m&&&c !=0):=by
 subst j;have:=ZdV (m&&&c);rwa [UInt8.toNat_and] at this
def Zu0(m:UInt8):((m.toNat:Int) % 2 !=0)=(m&&&1 !=0):=by
 have:=Zdx m 1 1 rfl;rw[Nat.and_one_is_mod] at this;rw[<-this];rfl
def ZfG(v:Int)(w:World):Calls prog 50 #[.int .i64 v] w λe w'=>e=.returned (.int .i64 (Zs v.toNat))/\w=w':=by
 by_cases y:v=2
 ·subst y;go_enter func50,ntmps50
  go_wp2_with fail
  go_ret
  exact⟨rfl,rfl⟩
 ·by_cases u:v=3
  ·subst u;go_enter func50,ntmps50
   go_wp2_with fail
   go_ret
   exact⟨rfl,rfl⟩
  ·by_cases q:v=4
   ·subst q;go_enter func50,ntmps50
    go_wp2_with fail
    go_ret
    exact⟨rfl,rfl⟩
   ·have J:(v==2)=false:=by simpa using y
    have I:(v==3)=false:=by simpa using u
    have D:(v==4)=false:=by simpa using q
    have j:Zs v.toNat=0:=by
     unfold Zs;rw[if_neg (by omega),if_neg (by omega)]
    have C:=QQ j;clear j;go_enter func50,ntmps50
    go_wp2_with fail
    go_ret
    exact⟨ZaH (by rw[C.out];rfl),rfl⟩
def ZuQ{v:Int}(m:UInt8)(y:v≠3)(u:v≠4):ZQ v.toNat m=false:=by
 unfold ZQ;have q:(v.toNat==3)=false:=by rw[beq_eq_false_iff_ne];omega
 have j:(v.toNat==4)=false:=by rw[beq_eq_false_iff_ne];omega
 rw[q,j];rfl
def Zdk(id:ByteArray)(st m:UInt8)(v:Int)(w:World):
 Calls prog 78 #[.agg #[.string id,.int .u8 st.toNat,.int .u8 m.toNat],.int .i64 v] w λe w'=>e=.returned (.bool (ZQ v.toNat m))/\Below w.heap.size w w':=by
 by_cases u:v=3
 ·subst u;have hb:=ZcK m 192 192 rfl;have y:=QQ (Zdx m 192 192 rfl);have j:ZQ (3:Int).toNat m=(m&&&192 !=0):=by simp[ZQ]
  rw[j];go_enter func78,ntmps78
  go_wp2_with fail
  go_ret
  exact⟨ZcQ y,(Below.refl _ w).alloc NL _⟩
 ·by_cases q:v=4
  ·subst q;have hb:=ZcK m 12 12 rfl;have y:=QQ (Zdx m 12 12 rfl);have j:ZQ (4:Int).toNat m=(m&&&12 !=0):=by simp[ZQ]
   rw[j];go_enter func78,ntmps78
   go_wp2_with fail
   go_ret
   exact⟨ZcQ y,(Below.refl _ w).alloc NL _⟩
  ·have D:(v==3)=false:=by simpa using u
   have C:(v==4)=false:=by simpa using q
   rw[ZuQ m u q];go_enter func78,ntmps78
   go_wp2_with fail
   go_ret
   exact⟨rfl,(Below.refl _ w).alloc NL _⟩
def ZgQ(id:ByteArray)(st m:UInt8)(v:Int)(w:World):
 Calls prog 169 #[.agg #[.string id,.int .u8 st.toNat,.int .u8 m.toNat],.int .i64 v] w λe w'=>e=.returned (.bool (ZaC v.toNat m))/\Below w.heap.size w w':=by
 have q:=λw=>Zdk id st m v w;by_cases y:ZQ v.toNat m=true
 ·have D:ZaC v.toNat m=false:=by unfold ZaC;rw[y];rfl
  rw[y] at q;rw[D];clear y D;go_enter func169,ntmps169
  go_wp2_with (go_at_call 78;refine MR (q _) λI j=>?_)
  go_ret
  exact⟨rfl,Ze j⟩
 ·have u:ZQ v.toNat m=false:=by simpa using y
  rw[u] at q;by_cases V:v=3
  ·subst V;have hb:=ZcK m 32 32 rfl;have L:=QQ (Zdx m 32 32 rfl);have C:ZaC (3:Int).toNat m=(m&&&32 !=0):=by
    unfold ZaC;rw[u];simp
   rw[C];clear C y u;go_enter func169,ntmps169
   go_wp2_with (go_at_call 78;refine MR (q _) λI j=>?_;obtain⟨c0,Z,c2,Y,X,W,J⟩:=bx3' j)
   go_ret
   exact⟨ZcQ L,Ze j⟩
  ·by_cases U:v=4
   ·subst U;have hb:=ZcK m 64 64 rfl;have L:=QQ (Zdx m 64 64 rfl);have C:ZaC (4:Int).toNat m=(m&&&64 !=0):=by
     unfold ZaC;rw[u];simp
    rw[C];clear C y u;go_enter func169,ntmps169
    go_wp2_with (go_at_call 78;refine MR (q _) λI j=>?_;obtain⟨c0,Z,c2,Y,X,W,J⟩:=bx3' j)
    go_ret
    exact⟨ZcQ L,Ze j⟩
   ·have e3:(v==3)=false:=by simpa using V
    have e4:(v==4)=false:=by simpa using U
    have O:(v.toNat==3)=false:=by rw[beq_eq_false_iff_ne];omega
    have N:(v.toNat==4)=false:=by rw[beq_eq_false_iff_ne];omega
    have D:ZaC v.toNat m=false:=by unfold ZaC;rw[O,N];simp
    rw[D];clear y u D O N;go_enter func169,ntmps169
    go_wp2_with (go_at_call 78;refine MR (q _) λI j=>?_)
    go_ret
    exact⟨rfl,Ze j⟩
def Zij(id:ByteArray)(st m:UInt8)(v:Int)(w:World):
 Calls prog 170 #[.agg #[.string id,.int .u8 st.toNat,.int .u8 m.toNat],.int .i64 v] w λe w'=>e=.returned (.bool (ZaY v.toNat m))/\Below w.heap.size w w':=by
 by_cases J:v=4
 ·subst J;have j:=λw=>Zdk id st m 4 w;by_cases C:ZQ (4:Int).toNat m=true
  ·have y:ZaY (4:Int).toNat m=false:=by unfold ZaY;rw[C];simp
   rw[C] at j;rw[y];clear C y;go_enter func170,ntmps170
   go_wp2_with (go_at_call 78;refine MR (j _) λL q=>?_)
   go_ret
   exact⟨rfl,Ze q⟩
  ·have u:ZQ (4:Int).toNat m=false:=by simpa using C
   rw[u] at j;have hb:=ZcK m 1 1 rfl;have O:=QQ (Zu0 m);have I:ZaY (4:Int).toNat m=(m&&&1 !=0):=by
    unfold ZaY;rw[u];simp
   rw[I];clear I C u;go_enter func170,ntmps170
   go_wp2_with (go_at_call 78;refine MR (j _) λL q=>?_;obtain⟨Z,Y,c2,W,V,U,N⟩:=bx3' q)
   go_ret
   exact⟨ZcQ O,Ze q⟩
 ·have X:(v==4)=false:=by simpa using J
  have D:(v.toNat==4)=false:=by rw[beq_eq_false_iff_ne];omega
  have y:ZaY v.toNat m=false:=by unfold ZaY;rw[D];rfl
  rw[y];clear y D;go_enter func170,ntmps170
  go_wp2_with fail
  go_ret
  exact⟨rfl,(Below.refl _ w).alloc NL _⟩
def Zid(id:ByteArray)(st m:UInt8)(v:Int)(w:World):
 Calls prog 171 #[.agg #[.string id,.int .u8 st.toNat,.int .u8 m.toNat],.int .i64 v] w λe w'=>e=.returned (.bool (Zbv v.toNat m))/\Below w.heap.size w w':=by
 by_cases J:v=4
 ·subst J;have j:=λw=>Zdk id st m 4 w;by_cases C:ZQ (4:Int).toNat m=true
  ·have y:Zbv (4:Int).toNat m=false:=by unfold Zbv;rw[C];simp
   rw[C] at j;rw[y];clear C y;go_enter func171,ntmps171
   go_wp2_with (go_at_call 78;refine MR (j _) λL q=>?_)
   go_ret
   exact⟨rfl,Ze q⟩
  ·have u:ZQ (4:Int).toNat m=false:=by simpa using C
   rw[u] at j;have hb:=ZcK m 2 2 rfl;have O:=QQ (Zdx m 2 2 rfl);have I:Zbv (4:Int).toNat m=(m&&&2 !=0):=by
    unfold Zbv;rw[u];simp
   rw[I];clear I C u;go_enter func171,ntmps171
   go_wp2_with (go_at_call 78;refine MR (j _) λL q=>?_;obtain⟨Z,Y,c2,W,V,U,N⟩:=bx3' q)
   go_ret
   exact⟨ZcQ O,Ze q⟩
 ·have X:(v==4)=false:=by simpa using J
  have D:(v.toNat==4)=false:=by rw[beq_eq_false_iff_ne];omega
  have y:Zbv v.toNat m=false:=by unfold Zbv;rw[D];rfl
  rw[y];clear y D;go_enter func171,ntmps171
  go_wp2_with fail
  go_ret
  exact⟨rfl,(Below.refl _ w).alloc NL _⟩
def ZsW(c:UInt8):Zem c=(!((decide ((c.toNat:Int)<65)||decide ((c.toNat:Int)>90))&&(decide ((c.toNat:Int)<48)||decide ((c.toNat:Int)>57)))):=by
 unfold Zem Zmr;rw[Bool.eq_iff_iff];simp;omega
def Zkv(t:List UInt8):∀k,k<=t.length->(∀j (h:j<t.length),j<k->Zem t[j]=true)->Zax t=k+Zax (t.drop k)
 |0,_,_=>by simp
 |k+1,y,h=>by
  rw[Zkv t k (by omega) (λj u q=>h j u (by omega)),List.drop_eq_getElem_cons (show k<t.length by omega),Zax,if_pos (h k (by omega) (by omega))];omega
def WrRel(t:List UInt8)(i:Value):Prop:=∃k:Nat,k<=t.length/\i=.int .i64 k/\∀j (h:j<t.length),j<k->Zem t[j]=true
def ZlJ(t:List UInt8)(ht:t.length<=1000000000)(w:World):
 Calls prog 103 #[.string (B t)] w λe w'=>e=.returned (.int .i64 (Zax t))/\w=w':=by
 have aa:=Zj t;go_enter func103,ntmps103
 go_wp2_with fail
 go_loop [7] (λi=>WrRel t i) (λi=>t.length - (intOf i).toNat)
 case atStart=>exact⟨0,by omega,rfl,λj _ h=>by omega⟩
 case round=>
  obtain⟨k,Y,rfl,I⟩:=hrel;have u:=QQ I;clear I;by_cases J:k<t.length
  ·have hg:=ZaV t k J;have q:=ZsW t[k];by_cases C:Zem t[k]=true
   ·rw[C] at q;have Z:=QQ C;have y:(48<=(t[k].toNat:Int)/\(t[k].toNat:Int)<=57)\/(65<=(t[k].toNat:Int)/\(t[k].toNat:Int)<=90):=by
     simp at q;omega
    clear C q;rcases y with⟨N,X⟩|⟨N,X⟩
    ·go_wp2_with fail
     go_round
     case rel=>
      refine⟨k+1,by omega,by go_num,λj V U=>?_⟩;by_cases e:j=k
      ·subst e;exact Z.out
      ·exact u j V (by omega)
     case measure=>simp[intOf];omega
    ·go_wp2_with fail
     go_round
     case rel=>
      refine⟨k+1,by omega,by go_num,λj V U=>?_⟩;by_cases e:j=k
      ·subst e;exact Z.out
      ·exact u j V (by omega)
     case measure=>simp[intOf];omega
   ·have L:Zem t[k]=false:=by simpa using C
    have D:Zax t=k:=by
     rw[Zkv t k Y u.out,List.drop_eq_getElem_cons J,Zax,if_neg (by simpa using C)];rfl
    have W:=QQ D;rw[L] at q;have y:(t[k].toNat:Int)<48\/(57<(t[k].toNat:Int)/\(t[k].toNat:Int)<65)\/90<(t[k].toNat:Int):=by
     simp at q;omega
    clear C q L D;rcases y with N|⟨N,X⟩|N
    all_goals
     go_wp2_with fail
     go_ret
     exact⟨ZaH (by rw[W.out]),rfl⟩
  ·have O:k=t.length:=by omega
   subst O;have D:Zax t=t.length:=by
    rw[Zkv t _ Y u.out,List.drop_length];rfl
   have W:=QQ D;clear D;go_wp2_with fail
   go_ret
   exact⟨ZaH (by rw[W.out]),rfl⟩
def seqB(l m:List UInt8):((B l).toList==m)=(l==m):=by rw[ByteArray.toList_eq,Z9]
def Zjn(l:List UInt8):(B l).toList=l:=by rw[ByteArray.toList_eq,Z9]
def Zc3(s:InS)(k:Nat)(j:k<=8):(s.big k).1<256^k:=by
 unfold InS.big;simp only[Nat.min_eq_left j];have u:=Zd8 s k;have q:=(InS.bigN_lt (s.take k).1 (by omega)).1;exact Nat.lt_of_lt_of_le q (Nat.pow_le_pow_right (by decide) u)
def ZhM(s:InS):s.safe.1<268435456:=by
 have hs:s.safe=match InS.high (s.take 4).1 with
  |some i=>(0,(s.take 4).2.fail 1 ((s.take 4).2.place ((s.take 4).2.n - (s.take 4).1.length+i)))
  |none=>(ZbL (s.take 4).1,(s.take 4).2):=rfl
 rw[hs];clear hs;have N:=Zd8 s 4;generalize (s.take 4).1=L at*;cases I:InS.high L with
 |some i=>simp
 |none=>
  simp only;have q:∀j (h:j<L.length),j<L.length->L[j].toNat<128:=by
   intro j D _;refine Classical.byContradiction λu=>?_;have:∀(l:List UInt8) (j:Nat) (h:j<l.length),128<=l[j].toNat->InS.high l≠none:=by
    intro l;induction l with
    |nil=>intro j h;simp at h
    |cons a r C=>
     intro j h u;unfold InS.high;by_cases y:128<=a.toNat
     ·rw[if_pos y];simp
     ·rw[if_neg y];cases j with
      |zero=>simp at u;omega
      |succ j=>have:=C j (by simpa using h) (by simpa using u);simpa using this
   exact this L j D (by omega) I
  have J:=InS.safeN_lt L L.length NL q;rw[List.take_length] at J;have U:(128:Nat)^L.length<=128^4:=Nat.pow_le_pow_right (by decide) N;have O:(128:Nat)^4=268435456:=by decide
  omega
def ZrV(K:Nat)(s:InS)(v:Int)(w:World)(h:InAt w K s):
 Calls prog 104 #[.int .i64 v,.pointer (some ⟨K,0,none⟩)] w (Zh K w (.int .i64 ((Zbh v.toNat s).1:Nat)) (Zbh v.toNat s).2):=by
 have H:=QQ h;by_cases L:v=2
 ·subst L;have hs:Zbh (2:Int).toNat s=s.big 3:=rfl;rw[hs];have u:=Zc3 s 3 (by omega);have j:(256:Nat)^3=16777216:=by decide
  rw[j] at u;have hb:=λw h=>Zdm K s 3 (by omega) w h;unfold Zh at hb;generalize y:Zh K w (.int .i64 ((s.big 3).1:Nat)) (s.big 3).2=P at*;generalize (s.big 3).1=N at*;generalize (s.big 3).2=I at*;clear h j hs;go_enter func104,ntmps104
  go_wp2_with (go_at_call 49;refine(hb _ H).mono ?_;rintro e D ⟨rfl,C,q⟩)
  show P (.returned (.int .i64 N)) _
  rw[<-y];exact⟨rfl,C,q⟩
 ·by_cases J:v=3
  ·subst J;have hs:Zbh (3:Int).toNat s=s.big 4:=rfl;rw[hs];have u:=Zc3 s 4 (by omega);have j:(256:Nat)^4=4294967296:=by decide
   rw[j] at u;have hb:=λw h=>Zdm K s 4 (by omega) w h;unfold Zh at hb;generalize y:Zh K w (.int .i64 ((s.big 4).1:Nat)) (s.big 4).2=P at*;generalize (s.big 4).1=N at*;generalize (s.big 4).2=I at*;clear h j hs;go_enter func104,ntmps104
   go_wp2_with (go_at_call 49;refine(hb _ H).mono ?_;rintro e D ⟨rfl,C,q⟩)
   show P (.returned (.int .i64 N)) _
   rw[<-y];exact⟨rfl,C,q⟩
  ·have hs:Zbh v.toNat s=s.safe:=by
    unfold Zbh;rw[if_neg (by omega),if_neg (by omega)]
   rw[hs];have U:(v==2)=false:=by simpa using L
   have O:(v==3)=false:=by simpa using J
   have hb:=λw h=>ZgU K s w h;unfold Zh at hb;generalize y:Zh K w (.int .i64 ((s.safe).1:Nat)) (s.safe).2=P at*;generalize (s.safe).1=N at*;generalize (s.safe).2=I at*;clear h hs;go_enter func104,ntmps104
   go_wp2_with (go_at_call 20;refine(hb _ H).mono ?_;rintro e D ⟨rfl,C,q⟩)
   show P (.returned (.int .i64 N)) _
   rw[<-y];exact⟨rfl,C,q⟩
def six(f:Fr):Array Value:=#[.string (B f.id),.int .u8 f.st.toNat,.int .u8 f.fm.toNat,.int .u8 f.grp.toNat,.string (B f.body),.int .i64 f.at_]
def Zq(w:World)(F:Nat)(f:Fr):Prop:=w.heap[F]?=some (.cells (six f) 114 (0,0))
section
variable {w w':World} {F:Nat} {f:Fr}
theorem Zq.lt(h:Zq w F f):F<w.heap.size:=(Array.getElem?_eq_some_iff.1 h).1
theorem Zq.get(h:Zq w F f):w.cell? ⟨F,0,none⟩=some (.string (B f.id))/\w.cell? ⟨F,1,none⟩=some (.int .u8 f.st.toNat)/\w.cell? ⟨F,2,none⟩=some (.int .u8 f.fm.toNat)/\w.cell? ⟨F,3,none⟩=some (.int .u8 f.grp.toNat)/\w.cell? ⟨F,4,none⟩=some (.string (B f.body))/\w.cell? ⟨F,5,none⟩=some (.int .i64 f.at_):=by
 refine⟨?_,?_,?_,?_,?_,?_⟩<;>(rw[cell_of_row _ F _ _ _ (0,0) h];rfl)
theorem Zq.free(h:Zq w F f)(j:Nat):w.frozen? ⟨F,j,none⟩=false:=frozen_of_row _ F j _ _ h
theorem Zq.below(h:Zq w F f)(hb:Below w.heap.size w w'):Zq w' F f:=(hb.block F (Zq.lt h)).trans h
theorem Zq.but{C:Nat}(h:Zq w F f)(hb:But C w.heap.size w w')(j:F≠C):Zq w' F f:=(hb.block F (Zq.lt h) j).trans h
theorem Zq.alloc(h:Zq w F f)(o:Obj):Zq (w.alloc o) F f:=h.below ((Below.refl _ _).alloc NL _)
theorem Zq.setGrp(h:Zq w F f)(g:UInt8)(z:Int)(j:z=g.toNat):Zq (w.setCell ⟨F,3,none⟩ (.int .u8 z)) F {f with grp:=g}:=by
 subst j;unfold Zq;rw[heap_setCell_same w F 3 _ _ _ h];rfl
theorem Zq.setBody(h:Zq w F f)(b:List UInt8):Zq (w.setCell ⟨F,4,none⟩ (.string (B b))) F {f with body:=b}:=by
 unfold Zq;rw[heap_setCell_same w F 4 _ _ _ h];rfl
end
def Zk1(t:List UInt8)(z:Int)(h0:0<=z)(j:z+t.length<=1000000000)(w:World):
 Calls prog 24 #[.string (B t),.int .i64 z] w λe w'=>∃K,e=.returned (.pointer (some ⟨K,0,none⟩))/\InAt w' K ⟨t,0,z.toNat,0,0⟩/\Below w.heap.size w w'/\w.heap.size<=K/\K<w'.heap.size:=
 (Zk0 t z h0 j w).mono λ_ _ ⟨a,b,c,d⟩=>⟨_,a,b,c,Nat.le_refl _,by omega⟩
def Zef(F:Nat)(w:World)(r:Except (Nat×Nat) Fr)(e:Ending)(w':World):Prop:=But F w.heap.size w w'/\match r with
 | .ok f=>e=.returned (.agg #[.int .i64 0,.int .i64 0])/\Zq w' F f
 | .error x=>e=.returned (.agg #[.int .i64 x.1,.int .i64 x.2])/\x.1≠0
def Bx(w:World)(g:Nat)(cs:Array Value)(T:TypeId):Prop:=w.heap[g]?=some (.cells cs T (0,0))
section
variable {w w':World} {g:Nat} {cs:Array Value} {T:TypeId}
theorem Bx.new(w:World)(cs:Array Value)(T:TypeId):Bx (w.alloc (.cells cs T)) w.heap.size cs T:=heap_alloc_new w _
theorem Bx.lt(h:Bx w g cs T):g<w.heap.size:=(Array.getElem?_eq_some_iff.1 h).1
theorem Bx.below(h:Bx w g cs T)(hb:Below w.heap.size w w'):Bx w' g cs T:=(hb.block g (Bx.lt h)).trans h
theorem Bx.but{C:Nat}(h:Bx w g cs T)(hb:But C w.heap.size w w')(j:g≠C):Bx w' g cs T:=(hb.block g (Bx.lt h) j).trans h
theorem Bx.alloc(h:Bx w g cs T)(o:Obj):Bx (w.alloc o) g cs T:=h.below ((Below.refl _ _).alloc NL _)
theorem Bx.set{k:Nat}(h:Bx w g cs T)(q:g≠k)(j:Nat)(v:Value):Bx (w.setCell ⟨k,j,none⟩ v) g cs T:=(Zfv q v).trans h
theorem Bx.cell(h:Bx w g cs T)(j:Nat):w.cell? ⟨g,j,none⟩=cs[j]?:=cell_of_row _ g j _ _ (0,0) h
theorem Bx.put(h:Bx w g cs T)(j:Nat)(v:Value):Bx (w.setCell ⟨g,j,none⟩ v) g (cs.setIfInBounds j v) T:=heap_setCell_same w g j _ _ v h
theorem Bx.free(h:Bx w g cs T)(j:Nat):w.frozen? ⟨g,j,none⟩=false:=frozen_of_row _ g j _ _ h
theorem Zq.set{k:Nat}{f:Fr}{F:Nat}(h:Zq w F f)(q:F≠k)(j:Nat)(v:Value):Zq (w.setCell ⟨k,j,none⟩ v) F f:=(Zfv q v).trans h
end
structure FSt (w0 wx:World)(F R K:Nat)(f:Fr)(s:InS):Prop where
 frame:Zq wx F f
 inn:InAt wx K s
 res:Bx wx R #[.int .i64 0,.int .i64 0] 34
 but:But F w0.heap.size w0 wx
 hF:F<w0.heap.size
 hR:R=w0.heap.size
 hK:R<K
section
variable {w0 w w':World} {F R K:Nat} {f:Fr} {s s':InS}
theorem FSt.below(h:FSt w0 w F R K f s)(hb:Below w.heap.size w w'):FSt w0 w' F R K f s:=
 ⟨h.frame.below hb,h.inn.below hb,h.res.below hb,h.but.trans (.of (hb.mono h.but.size)),h.hF,h.hR,h.hK⟩
theorem FSt.butK(h:FSt w0 w F R K f s)(j:InAt w' K s')(hb:But K w.heap.size w w'):FSt w0 w' F R K f s':=
 ⟨h.frame.but hb (by have:=h.hF;have:=h.hR;have:=h.hK;omega),j,h.res.but hb (by have:=h.hK;omega),h.but.trans (.of ((hb.mono h.but.size).below (by have:=h.hR;have:=h.hK;omega))),h.hF,h.hR,h.hK⟩
theorem FSt.alloc(h:FSt w0 w F R K f s)(o:Obj):FSt w0 (w.alloc o) F R K f s:=h.below ((Below.refl _ _).alloc NL _)
theorem FSt.setGrp(h:FSt w0 w F R K f s)(g:UInt8)(z:Int)(j:z=g.toNat):FSt w0 (w.setCell ⟨F,3,none⟩ (.int .u8 z)) F R K {f with grp:=g} s:=
 ⟨h.frame.setGrp g z j,h.inn.set (by have:=h.hF;have:=h.hR;have:=h.hK;omega) _ _,h.res.set (by have:=h.hF;have:=h.hR;omega) _ _,h.but.setCell (p:=⟨F,3,none⟩) (.inr rfl) _,h.hF,h.hR,h.hK⟩
theorem FSt.setBody(h:FSt w0 w F R K f s)(b:List UInt8):FSt w0 (w.setCell ⟨F,4,none⟩ (.string (B b))) F R K {f with body:=b} s:=
 ⟨h.frame.setBody b,h.inn.set (by have:=h.hF;have:=h.hR;have:=h.hK;omega) _ _,h.res.set (by have:=h.hF;have:=h.hR;omega) _ _,h.but.setCell (p:=⟨F,4,none⟩) (.inr rfl) _,h.hF,h.hR,h.hK⟩
theorem FSt.cells(h:FSt w0 w F R K f s):(w.cell? ⟨F,0,none⟩=some (.string (B f.id))/\w.cell? ⟨F,1,none⟩=some (.int .u8 f.st.toNat)/\w.cell? ⟨F,2,none⟩=some (.int .u8 f.fm.toNat)/\(∃u,w.cell? ⟨F,3,none⟩=some u)/\w.cell? ⟨F,4,none⟩=some (.string (B f.body)))/\
 w.cell? ⟨R,0,none⟩=some (.int .i64 0)/\w.cell? ⟨R,1,none⟩=some (.int .i64 0)/\(w.frozen? ⟨F,3,none⟩=false/\w.frozen? ⟨F,4,none⟩=false/\w.frozen? ⟨R,0,none⟩=false/\w.frozen? ⟨R,1,none⟩=false)/\F<w.heap.size/\R<w.heap.size:=by
 obtain⟨C,y,c2,q,j,D⟩:=h.frame.get;exact⟨⟨C,y,c2,⟨_,q⟩,j⟩,h.res.cell 0,h.res.cell 1,⟨h.frame.free 3,h.frame.free 4,h.res.free 0,h.res.free 1⟩,h.frame.lt,h.res.lt⟩
end
def Zqv(F:Nat)(f:Fr)(v:Int)(data:List UInt8)(z:Int)(w:World)(h:Zq w F f)(C:ZQ v.toNat f.fm=true):
 Calls prog 105 #[.pointer (some ⟨F,0,none⟩),.int .i64 v,.string (B data),.int .i64 z] w (Zef F w (Zbn v.toNat f data z.toNat)):=by
 have hR:Zbn v.toNat f data z.toNat=.ok {f with body:=data}:=by unfold Zbn;rw[if_pos C]
 rw[hR];generalize O:Zef F w (.ok {f with body:=data})=P at*;have u:=λw=>Zdk (B f.id) f.st f.fm v w;rw[C] at u;have H:=QQ h;obtain⟨c0,c1,c2,c3,c4,c5⟩:=h.get;have f4:=h.free 4;have N:=h.lt;clear h hR C;go_enter func105,ntmps105
 go_wp2_with (go_at_call 78;refine MR (u _) λY j=>?_;have y:=QQ ((H.alloc _).below j);have D:=QQ (Ze j);obtain⟨d0,d1,d2,d3,d4,d5⟩:=y.get;have Z:=y.free 4;have I:=y.lt;have J:=ZY j;have q:=(Bx.new w _ _).below j;have X:=q.cell 0;have W:=q.cell 1;have V:=q.free 0;have U:=q.free 1;clear q)
 have L:=((((Bx.new w _ _).below j).set (k:=F) (by omega) 4 (.string (B data))).put 0 (.int .i64 0)).put 1 (.int .i64 0);refine bodyPost_ret (results_cell_row rfl _ _ w.heap.size _ _ _ _ rfl L underlying34 rfl (by kernel_rfl)) rfl ?_;rw[<-O];exact⟨(((But.of D).setCell (p:=⟨F,4,none⟩) (.inr rfl) _).setCell (p:=⟨w.heap.size,0,none⟩) (.inl NL) _).setCell (p:=⟨w.heap.size,1,none⟩) (.inl NL) _,rfl,((y.setBody data).set (by omega) _ _).set (by omega) _ _⟩
def fpF(v:Nat)(f:Fr)(data:List UInt8)(k:Nat):Nat×InS:=if ZaC v f.fm then(⟨data,0,k,0,0⟩:InS).big 1 else(f.grp.toNat,⟨data,0,k,0,0⟩)
def fqF(v:Nat)(f:Fr)(data:List UInt8)(k:Nat):Nat×InS:=if ZaY v f.fm then(fpF v f data k).2.safe else(0,(fpF v f data k).2)
def fdF(v:Nat)(f:Fr)(data:List UInt8)(k:Nat):List UInt8:=if Zbv v f.fm then Zae false (fqF v f data k).2.rest.1 else(fqF v f data k).2.rest.1
def ZmM(v:Nat)(f:Fr)(data:List UInt8)(k:Nat)(j:ZQ v f.fm=false):
 Zbn v f data k=if(fqF v f data k).2.e≠0 then .error ((fqF v f data k).2.e,(fqF v f data k).2.a) else
  if ZaY v f.fm=true/\(fqF v f data k).1≠(fdF v f data k).length then .error (1,(fpF v f data k).2.at_) else .ok {f with grp:=UInt8.ofNat (fpF v f data k).1,body:=fdF v f data k}:=by
 unfold Zbn;rw[if_neg (by rw[j];decide)];rfl
def fpF_lt(v:Nat)(f:Fr)(data:List UInt8)(k:Nat):(fpF v f data k).1<256:=by
 unfold fpF;split
 ·have:=Zc3 (⟨data,0,k,0,0⟩:InS) 1 (by omega);simpa using this
 ·exact f.grp.toNat_lt
def fqF_lt(v:Nat)(f:Fr)(data:List UInt8)(k:Nat):(fqF v f data k).1<268435456:=by
 unfold fqF;split
 ·exact ZhM _
 ·simp
def Zjy(N:Nat)(h:N<256):(N:Int)=(UInt8.ofNat N).toNat:=by rw[UInt8.toNat_ofNat'];omega
def ZjY(s:InS)(h:s.t.length<=1000000000):s.rest.1.length<=1000000000:=by
 have j:=Zd8 s s.left;have:s.left<=s.t.length:=by unfold InS.left;split<;>omega
 unfold InS.rest;omega
def Ze7:∀(f:Bool) (l:List UInt8),(Zae f l).length<=l.length
 |_,[]=>Nat.le_refl _
 |f,x::r=>by
  unfold Zae;split
  ·have:=Ze7 false r;simp only[List.length_cons];omega
  ·have:=Ze7 (x==255) r;simp only[List.length_cons];omega
def Zqw(F:Nat)(f:Fr)(v:Int)(data:List UInt8)(z:Int)(a6:0<=z)(aI:z+data.length<=1000000000)(w:World)(h:Zq w F f)(hl:ZQ v.toNat f.fm=false):
 Calls prog 105 #[.pointer (some ⟨F,0,none⟩),.int .i64 v,.string (B data),.int .i64 z] w (Zef F w (Zbn v.toNat f data z.toNat)):=by
 have hR:=ZmM v.toNat f data z.toNat hl;have ba:=fpF_lt v.toNat f data z.toNat;have bM:=fqF_lt v.toNat f data z.toNat;generalize hP:Zef F w (Zbn v.toNat f data z.toNat)=P at*;have aL:=λw=>Zdk (B f.id) f.st f.fm v w;rw[hl] at aL;have bg:=λw=>ZgQ (B f.id) f.st f.fm v w;have aj:=λw=>Zij (B f.id) f.st f.fm v w;have a7:=λw=>Zid (B f.id) f.st f.fm v w;have bf:=λw=>Zk1 data z a6 aI w;have H:=QQ h;have HR:=QQ hR;obtain⟨c0,c1,c2,c3,c4,c5⟩:=h.get;have bc:=h.lt;have aY:Hid (fpF v.toNat f data z.toNat=if ZaC v.toNat f.fm then(⟨data,0,z.toNat,0,0⟩:InS).big 1 else(f.grp.toNat,⟨data,0,z.toNat,0,0⟩)):=QQ rfl;have aX:Hid (fqF v.toNat f data z.toNat=if ZaY v.toNat f.fm then(fpF v.toNat f data z.toNat).2.safe else(0,(fpF v.toNat f data z.toNat).2)):=QQ rfl;have aD:Hid (fdF v.toNat f data z.toNat=if Zbv v.toNat f.fm then Zae false (fqF v.toNat f data z.toNat).2.rest.1 else(fqF v.toNat f data z.toNat).2.rest.1):=QQ rfl;clear h hR hl;generalize fpF v.toNat f data z.toNat=p at*;generalize fqF v.toNat f data z.toNat=q at*;generalize fdF v.toNat f data z.toNat=d at*;generalize bh:ZaC v.toNat f.fm=G at*;generalize bb:ZaY v.toNat f.fm=M at*;generalize a8:Zbv v.toNat f.fm=S at*;clear bh bb a8;go_enter func105,ntmps105
 go_upto_if 32 with(first
  |(go_at_call 78;refine MR (aL _) λw1 af=>?_;have h1:=QQ ((H.alloc _).below af);have aT:=QQ (Ze af);have aI:=ZY af;have hx:=QQ ((Bx.new w _ _).below af);clear af)
  |(go_at_call 24;refine(bf _).mono ?_;rintro e w2 ⟨K,rfl,hI,ak,bP,bO⟩;have ST:Hid (FSt w w2 F w.heap.size K f ⟨data,0,z.toNat,0,0⟩):=QQ ⟨h1.below ak,hI,hx.below ak,(But.of aT).trans (.of (ak.mono aT.size)),bc,rfl,by omega⟩;clear hI ak;obtain⟨⟨d0,d1,d2,⟨u3,d3⟩,d4⟩,L,J,⟨O,N,u,j⟩,l1,l2⟩:=ST.cells)
  |(go_at_call 169;refine MR (bg _) λw3 aS=>?_;have ao:=QQ (ST.below aS);clear aS d0 d1 d2 d3 d4 L J O N u j))
 have be:p.1=p.1:=rfl;clear be;obtain⟨⟨e0,I,D,⟨v3,U⟩,C⟩,L,J,⟨O,N,u,j⟩,l3,l4⟩:=ao.cells;go_cut [] (λwx=>FSt w wx F w.heap.size K {f with grp:=UInt8.ofNat p.1} p.2)
 case first=>
  have aA:=λw h=>Zdm K ⟨data,0,z.toNat,0,0⟩ 1 (by omega) w h;unfold Zh at aA;cases G with
  |true=>
   have hp:=aY.out;rw[if_pos rfl] at hp;rw[<-hp] at aA;clear hp;go_wp2_with (go_at_call 49;refine(aA _ ao.inn).mono ?_;rintro e w4 ⟨rfl,h4,aR⟩;have ab:=QQ (ao.butK h4 aR);clear h4 aR e0 I D U C L J O N u j;obtain⟨⟨d0,d1,d2,⟨u3,d3⟩,d4⟩,L,J,⟨O,N,u,j⟩,m1,m2⟩:=ab.cells)
   go_meet
   exact ab.setGrp _ _ (Zjy _ ba)
  |false=>
   have hp:=aY.out;rw[if_neg (by decide)] at hp;have he:({f with grp:=UInt8.ofNat p.1}:Fr)=f:=by rw[hp];simp
   have aN:p.2=⟨data,0,z.toNat,0,0⟩:=by rw[hp]
   have He:=QQ he;have bj:=QQ aN;clear hp he aN;go_wp2_with fail
   go_meet
   rw[He.out,bj.out];exact ao.out
 case rest=>
  have ab:=QQ hcut;clear hcut e0 I D U C L J O N u j c0 c1 c2 c3 c4 c5;have bi:=λw h=>Zcs K p.2 w h;obtain⟨⟨e0,I,D,⟨v4,U⟩,C⟩,L,J,⟨O,N,u,j⟩,l5,l6⟩:=ab.cells;simp only at e0 I D C
  go_upto_if 46 with(first
   |(go_at_call 57;refine(bi _ ab.inn).mono ?_;rintro e w5 ⟨rfl,rfl⟩)
   |(go_at_call 170;refine MR (aj _) λw6 aQ=>?_;have an:=QQ (ab.below aQ);clear aQ e0 I D U C L J O N u j))
  obtain⟨⟨e0,I,D,⟨v4,U⟩,C⟩,L,J,⟨O,N,u,j⟩,l7,l8⟩:=an.cells;simp only at e0 I D C;go_cut [11] (λa1 wx=>a1=.int .i64 q.1/\FSt w wx F w.heap.size K {f with grp:=UInt8.ofNat p.1} q.2)
  case first=>
   have ax:=λw h=>ZgU K p.2 w h;unfold Zh at ax;cases M with
   |true=>
    have hq:=aX.out;rw[if_pos rfl] at hq;rw[<-hq] at ax;clear hq;go_wp2_with (go_at_call 20;refine(ax _ an.inn).mono ?_;rintro e w7 ⟨rfl,h7,aP⟩;have X:=QQ (an.butK h7 aP);clear h7 aP)
    go_meet
    exact⟨rfl,X⟩
   |false=>
    have hq:=aX.out;rw[if_neg (by decide)] at hq;have Hq:=QQ hq;clear hq;go_wp2_with fail
    go_meet
    rw[Hq.out];exact⟨rfl,an⟩
  case rest=>
   obtain⟨rfl,hcut⟩:=hcut;have X:=QQ hcut;clear hcut e0 I D U C L J O N u j;obtain⟨⟨e0,I,D,⟨v5,U⟩,C⟩,L,J,⟨O,N,u,j⟩,l9,bJ⟩:=X.cells;simp only at e0 I D C;have aM:=λw h=>Zc0 K q.2 w h;by_cases hE:q.2.e=0
   ·have y:=HR.out;rw[if_neg (by simpa using hE)] at y;have ai:=QQ y;have aB:=λw=>ZG (q.2.e:Int) q.2.a (by omega) w;have aJ:=λw h=>ZeU K q.2 w h;unfold Zh at aJ;have aK:=ZjY q.2 X.inn.len;have HE:=QQ hE;clear y hE
    go_upto_if 64 with(first
     |(go_at_call 21;refine MR (aM _ X.inn) λw8 ae=>?_;have ah:=QQ (X.below ae);clear ae e0 I D U C L J O N u j;obtain⟨⟨e0,I,D,⟨v5,U⟩,C⟩,L,J,⟨O,N,u,j⟩,a5,a4⟩:=ah.cells)
     |(go_at_call 8;refine MR (aB _) λw9 aa=>?_;have Z:=QQ ((ah.alloc _).below aa);clear aa e0 I D U C L J O N u j;obtain⟨⟨e0,I,D,⟨v5,U⟩,C⟩,L,J,⟨O,N,u,j⟩,a3,a2⟩:=Z.cells)
     |(go_at_call 29;refine(aJ _ Z.inn).mono ?_;rintro e bw ⟨rfl,aU,aw⟩;have aW:=QQ (Z.butK aU aw);clear aU aw e0 I D U C L J O N u j;obtain⟨⟨e0,I,D,⟨v5,U⟩,C⟩,L,J,⟨O,N,u,j⟩,bI,bH⟩:=aW.cells)
     |(go_at_call 171;refine MR (a7 _) λbv au=>?_;have aC:=QQ ((aW.setBody q.2.rest.1).below au);clear au e0 I D U C L J O N u j))
    obtain⟨⟨e0,I,D,⟨v5,U⟩,C⟩,L,J,⟨O,N,u,j⟩,bG,bF⟩:=aC.cells;simp only at e0 I D C;go_cut [] (λwx=>FSt w wx F w.heap.size K {f with grp:=UInt8.ofNat p.1,body:=d} q.2.rest.2)
    case first=>
     have aO:=λw=>ZkQ q.2.rest.1 aK w;cases S with
     |true=>
      have hd:=aD.out;rw[if_pos rfl] at hd;rw[<-hd] at aO;clear hd;go_wp2_with (go_at_call 23;refine MR (aO _) λbu aq=>?_;have aV:=QQ (aC.below aq);clear aq e0 I D U C L J O N u j;obtain⟨⟨e0,I,D,⟨v5,U⟩,C⟩,L,J,⟨O,N,u,j⟩,bE,bD⟩:=aV.cells)
      go_meet
      exact aV.setBody d
     |false=>
      have hd:=aD.out;rw[if_neg (by decide)] at hd;have Hd:=QQ hd;clear hd;go_wp2_with fail
      go_meet
      rw[Hd.out];exact aC.out
    case rest=>
     have am:=QQ hcut;clear hcut e0 I D U C L J O N u j;obtain⟨⟨e0,I,D,⟨v5,U⟩,C⟩,L,J,⟨O,N,u,j⟩,bC,bB⟩:=am.cells;simp only at e0 I D C;have bN:d.length<=1000000000:=by
      have hd:=aD.out;rw[hd];split
      ·have:=Ze7 false q.2.rest.1;omega
      ·exact aK
     have bL:=Zj d;cases M with
     |false=>
      have y:=ai.out;rw[if_neg (by simp)] at y;have Y:=QQ y;clear y;go_wp2_with (go_at_call 170;refine MR (aj _) λaF W=>?_;have V:=QQ (am.below W);clear W e0 I D U C L J O N u j;obtain⟨⟨e0,I,D,⟨v5,U⟩,C⟩,L,J,⟨O,N,u,j⟩,aH,aG⟩:=V.cells)
      have hr:=(V.res.put 0 (.int .i64 0)).put 1 (.int .i64 0);refine bodyPost_ret (results_cell_row rfl _ _ w.heap.size _ _ _ _ rfl hr underlying34 rfl (by kernel_rfl)) rfl ?_;rw[<-hP,Y.out];exact⟨(V.but.setCell (p:=⟨w.heap.size,0,none⟩) (.inl NL) _).setCell (p:=⟨w.heap.size,1,none⟩) (.inl NL) _,rfl,(V.frame.set (by omega) _ _).set (by omega) _ _⟩
     |true=>
      by_cases ad:q.1=d.length
      ·have a9:((q.1:Int) !=(d.length:Int))=false:=by rw[ad];simp
       have y:=ai.out;rw[if_neg (by simp[ad])] at y;have Y:=QQ y;clear y ad;go_wp2_with (go_at_call 170;refine MR (aj _) λaF W=>?_;have V:=QQ (am.below W);clear W e0 I D U C L J O N u j;obtain⟨⟨e0,I,D,⟨v5,U⟩,C⟩,L,J,⟨O,N,u,j⟩,aH,aG⟩:=V.cells)
       have hr:=(V.res.put 0 (.int .i64 0)).put 1 (.int .i64 0);refine bodyPost_ret (results_cell_row rfl _ _ w.heap.size _ _ _ _ rfl hr underlying34 rfl (by kernel_rfl)) rfl ?_;rw[<-hP,Y.out];exact⟨(V.but.setCell (p:=⟨w.heap.size,0,none⟩) (.inl NL) _).setCell (p:=⟨w.heap.size,1,none⟩) (.inl NL) _,rfl,(V.frame.set (by omega) _ _).set (by omega) _ _⟩
      ·have a9:((q.1:Int) !=(d.length:Int))=true:=by rw[bne_iff_ne];omega
       have y:=ai.out;rw[if_pos (by simp[ad])] at y;have Y:=QQ y;clear y ad;go_wp2_with (go_at_call 170;refine MR (aj _) λaF W=>?_;have V:=QQ (am.below W);clear W e0 I D U C L J O N u j;obtain⟨⟨e0,I,D,⟨v5,U⟩,C⟩,L,J,⟨O,N,u,j⟩,aH,aG⟩:=V.cells)
       have hr:=(V.res.put 0 (.int .i64 1)).put 1 (.int .i64 p.2.at_);refine bodyPost_ret (results_cell_row rfl _ _ w.heap.size _ _ _ _ rfl hr underlying34 rfl (by kernel_rfl)) rfl ?_;rw[<-hP,Y.out];exact⟨(V.but.setCell (p:=⟨w.heap.size,0,none⟩) (.inl NL) _).setCell (p:=⟨w.heap.size,1,none⟩) (.inl NL) _,rfl,Nat.one_ne_zero⟩
   ·have y:=HR.out;rw[if_pos hE] at y;have ai:=QQ y;have aB:=λw=>ZV (q.2.e:Int) q.2.a (by omega) w;have HE:=QQ hE;clear y hE;go_wp2_with (first
     |(go_at_call 21;refine MR (aM _ X.inn) λw8 ae=>?_;have ah:=QQ (X.below ae);clear ae e0 I D U C L J O N u j;obtain⟨⟨e0,I,D,⟨v5,U⟩,C⟩,L,J,⟨O,N,u,j⟩,a5,a4⟩:=ah.cells)
     |(go_at_call 8;refine MR (aB _) λw9 aa=>?_;have BX:=QQ ((Bx.new w8 _ _).below aa);have Z:=QQ ((ah.alloc _).below aa);clear aa e0 I D U C L J O N u j;obtain⟨⟨e0,I,D,⟨v5,U⟩,C⟩,L,J,⟨O,N,u,j⟩,a3,a2⟩:=Z.cells;have x0:=BX.cell 0;have x1:=BX.cell 1))
    have hr:=(Z.res.put 0 (.int .i64 q.2.e)).put 1 (.int .i64 q.2.a);refine bodyPost_ret (results_cell_row rfl _ _ w.heap.size _ _ _ _ rfl hr underlying34 rfl (by kernel_rfl)) rfl ?_;rw[<-hP,ai.out];exact⟨(Z.but.setCell (p:=⟨w.heap.size,0,none⟩) (.inl NL) _).setCell (p:=⟨w.heap.size,1,none⟩) (.inl NL) _,rfl,HE⟩
