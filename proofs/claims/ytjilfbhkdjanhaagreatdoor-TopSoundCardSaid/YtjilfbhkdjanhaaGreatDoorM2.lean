/- Lemmas for a statement on the tops; conditions: as each says. -/
import Derived.Test.YtjilfbhkdjanhaaGreatDoorRows
import Derived.WalkSpells
import Derived.Outline
import Derived.Deep.DeepFit
import Derived.Lib.Index
import Derived.Lib.OthersKept
import Derived.LoopN
import Derived.Lib.ValidU
import Derived.Deep.QuietTactic
import Derived.BigQuiet
import Derived.Shelf.SlGeneric
import Derived.Shelf.SlSortCmp.WholeK
import Derived.Shelf.SlicesE.Clone
import Derived.Shelf.SlicesE.Index
import Derived.Ground.SlsfProg
import Derived.Ground.SlgnProg
import Derived.Test.YtjilfbhkdjanhaaGreatDoorM1
set_option linter.all false
set_option maxRecDepth 100000
set_option maxHeartbeats 2000000
open Go.Proofs.Tryz
namespace Go.Proofs.YtjilfbhkdjanhaaGreatDoor
open Go Go.RowKit
def Zo(w:World):Prop:=Lib.Utf8Tabs 1 2 w
def Zed(e a:Int)(w:World):
 Calls prog 8 #[.agg #[.int .i64 e,.int .i64 a]] w λx w'=>x=.returned (.bool (e !=0))/\Below w.heap.size w w':=by
 go_enter func8,ntmps8
 go_wp2
 go_ret
 exact⟨rfl,(Below.refl _ _).alloc NL _⟩
def Zp9(s:ByteArray)(i:Nat)(p:Int)(t:List UInt8)(hd:s.data.toList.drop i=Lib.encodeRune p++t)(j:Zm p=true)(w:World)(hT:Zo w):
 Calls prog 264 #[.string (s.extract i s.size)] w λe w'=>e=.returned (.tuple #[.int .i32 p,.int .i64 (Lib.encodeRune p).length])/\Below w.heap.size w w':=by
 have q:i<s.size:=by
  have y:=congrArg List.length hd;have C:=(ZcM p).1;have u:s.data.toList.length=s.size:=by simp
  rw[List.length_drop,List.length_append,u] at y;omega
 have h:=utf8_DecodeRuneInString (s.extract i s.size) w hT;rw[Zmp s i q,hd,Ze4 j] at h;have e:((p.toNat:Nat):Int)=p:=by have:=Zar.1 j;omega
 simp only[e] at h;exact h
def Zp8(s:ByteArray)(i:Nat)(j:i<s.size)(hd:ZbR (ZA (s.data.toList.drop i)))(w:World)(hT:Zo w):
 Calls prog 264 #[.string (s.extract i s.size)] w λe w'=>(∃n:Nat,n<=1/\e=.returned (.tuple #[.int .i32 65533,.int .i64 n]))/\Below w.heap.size w w':=by
 have h:=utf8_DecodeRuneInString (s.extract i s.size) w hT;rw[Zmp s i j] at h;refine h.mono λe w' ⟨he,hb⟩=>⟨⟨_,hd.2,?_⟩,hb⟩
 rw[he,hd.1];rfl
def ZaQ{w w':World}(h:Zo w){B:Nat}(hb:Below B w w')(hB:w.heap.size<=B):Zo w':=Utf8Tabs_below h (hb.mono hB)
def ZrJ(ps:List Int)(w0:World)(n at_:Value)(wr:World):Prop:=
 ∃k i:Nat,n=.int .i64 k/\at_=.int .i64 i/\Run ps k i/\Below (w0.heap.size+1) (w0.alloc (.cells #[.int .i64 0,.int .i64 0] 34)) wr
def Zqa{s:ByteArray}{ps:List Int}{k i n:Nat}{p:Int}(h:Step s ps k i p n)(w:World)(hT:Zo w):
 Calls prog 264 #[.string (s.extract i s.size)] w λe w'=>e=.returned (.tuple #[.int .i32 p,.int .i64 n])/\Below w.heap.size w w':=by
 obtain⟨⟨t,j⟩,hn,_,hs⟩:=h;subst hn;exact Zp9 s i p t j hs w hT
def ZoU(s:ByteArray)(ps:List Int)(r:List UInt8)(V:Pre s ps r)(hr:r=[]\/ZbR (ZA r))(hs:s.size<=140737488355328)(w:World)(hT:Zo w):
 Calls prog 231 #[.string s] w λe w'=>
  ((r=[]/\e=.returned (.tuple #[.int .i64 ps.length,.agg #[.int .i64 0,.int .i64 0]]))\/(r≠[]/\e=.returned (.tuple #[.int .i64 0,.agg #[.int .i64 2,.int .i64 (Zd ps).length]])))/\Below w.heap.size w w':=by
 go_enter func231,ntmps231
 go_wp2_with fail
 go_loopw [4,5] (λn i wr=>ZrJ ps w n i wr) (λ_ i _=>s.size - (intOf i).toNat)
 case atStart=>exact⟨0,0,rfl,rfl,Run.zero _,Below.refl _ _⟩
 case round=>
  obtain⟨k,i,rfl,rfl,j,hb⟩:=hrel;have ak:=j.le V;obtain⟨aa,Z,aq,ap,af⟩:=Za6 hb;have N:Zo wr:=ZaQ (ZaQ hT (Below.alloc (Below.refl (w.heap.size) w) NL _) NL) hb (by simp);by_cases hk:k<ps.length
  ·obtain⟨p,n,O,y,aj,ai,an,_,_,U⟩:=j.step V hk;rcases U with U|⟨rfl,U⟩
   all_goals
    go_wp2_with (go_at_call 264;refine MR (Zqa O _ N) λw' D=>?_)
    go_roundw
    case rel=>exact⟨k+1,i+n,by go_num,by go_num,y,hb.trans (D.mono (by omega))⟩
    case measure=>simp[intOf];omega
  ·have X:k=ps.length:=by omega
   subst X;obtain⟨Y,C,u⟩:=j.end_ V;by_cases q:r=[]
   ·have ao:¬i<s.size:=by rw[q] at u;simp at u;omega
    clear C u Y;go_wp2_with fail
    refine bodyPost_ret (v:=.tuple #[.int .i64 ps.length,.agg #[.int .i64 0,.int .i64 0]]) (by simp[results,results231,go_sem,aa,Z]) rfl ⟨.inl ⟨q,rfl⟩,?_⟩;exact(((((Below.refl _ w).alloc NL _).trans (hb.mono (by omega))).setCell NL _).setCell NL _)
   ·have W:i<s.size:=by have:=List.length_pos_iff.2 q;omega
    have he:ZbR (ZA (s.data.toList.drop i)):=by rw[C];exact hr.resolve_left q
    have Hi:=QQ Y;clear C u Y;go_wp2_with (go_at_call 264;refine(Zp8 s i W he _ N).mono ?_;rintro e w' ⟨⟨n,hn,rfl⟩,D⟩;have ab:=D.mono (B':=w.heap.size+1) (by omega);have L:=hb.trans ab;obtain⟨J,I,ae,ad,ac⟩:=Za6 L)
    rw[Hi.out];refine bodyPost_ret (v:=.tuple #[.int .i64 0,.agg #[.int .i64 2,.int .i64 (Zd ps).length]]) (by simp[results,results231,go_sem,J,I]) rfl ⟨.inr ⟨q,rfl⟩,?_⟩;exact(((((Below.refl _ w).alloc NL _).trans (L.mono (by omega))).setCell NL _).setCell NL _)
def Zj3(s:ByteArray)(ps:List Int)(j:Good s ps)(hs:s.size<=140737488355328)(w:World)(hT:Zo w):
 Calls prog 231 #[.string s] w λe w'=>e=.returned (.tuple #[.int .i64 ps.length,.agg #[.int .i64 0,.int .i64 0]])/\Below w.heap.size w w':=
 (ZoU s ps [] j.pre (.inl rfl) hs w hT).mono λ_ _ ⟨h,hb⟩=>by
  rcases h with⟨_,h⟩|⟨h,_⟩
  ·exact⟨h,hb⟩
  ·exact absurd rfl h
def ZoT(s:ByteArray)(n:Nat)(u:ZbP s n)(hs:s.size<=140737488355328)(w:World)(hT:Zo w):
 Calls prog 231 #[.string s] w λe w'=>e=.returned (.tuple #[.int .i64 0,.agg #[.int .i64 2,.int .i64 n]])/\Below w.heap.size w w':=by
 obtain⟨ps,r,q,rfl,j,he⟩:=u.pre;refine(ZoU s ps r q (.inr he) hs w hT).mono λ_ _ ⟨h,hb⟩=>?_;rcases h with⟨h,_⟩|⟨_,h⟩
 ·exact absurd h j
 ·exact⟨h,hb⟩
def ZK{w:World}(h:Zo w)(o:Obj):Zo (w.alloc o):=ZaQ h ((Below.refl _ _).alloc NL _) NL
def Zia(s:ByteArray)(ps:List Int)(D:Good s ps)(hs:s.size<=140737488355328)(w:World)(hT:Zo w):
 Calls prog 152 #[.string s] w λe w'=>e=.returned (.agg #[.int .i64 0,.int .i64 0])/\Below w.heap.size w w':=by
 go_enter func152,ntmps152
 go_wp2_with (go_at_call 231;refine MR (Zj3 s ps D hs _ (by first|exact hT|exact ZK hT _)) λL j=>?_;have q:=j.size;try (obtain⟨C,y,J,I,u⟩:=Za6 (j.mono (by simp))))
 refine bodyPost_ret (v:=.agg #[.int .i64 0,.int .i64 0]) (by simp[results,results152,go_sem,C,y,u]) rfl ⟨rfl,?_⟩
 (repeat (first|exact Ze j|exact j|refine Below.alloc ?_ (by first|exact Nat.le_refl _|exact q|(simp;done)|(simp;omega)) _|refine Below.setCell ?_ (by first|exact Nat.le_refl _|exact q|(simp;done)|(simp;omega)) _))
def ZpW(s:ByteArray)(n:Nat)(D:ZbP s n)(hs:s.size<=140737488355328)(w:World)(hT:Zo w):
 Calls prog 152 #[.string s] w λe w'=>e=.returned (.agg #[.int .i64 2,.int .i64 n])/\Below w.heap.size w w':=by
 go_enter func152,ntmps152
 go_wp2_with (go_at_call 231;refine MR (ZoT s n D hs _ (by first|exact hT|exact ZK hT _)) λL j=>?_;have q:=j.size;try (obtain⟨C,y,J,I,u⟩:=Za6 (j.mono (by simp))))
 refine bodyPost_ret (v:=.agg #[.int .i64 2,.int .i64 n]) (by simp[results,results152,go_sem,C,y,u]) rfl ⟨rfl,?_⟩
 (repeat (first|exact Ze j|exact j|refine Below.alloc ?_ (by first|exact Nat.le_refl _|exact q|(simp;done)|(simp;omega)) _|refine Below.setCell ?_ (by first|exact Nat.le_refl _|exact q|(simp;done)|(simp;omega)) _))
def ZkK(s:ByteArray)(ps:List Int)(y:Good s ps)(hs:s.size<=140737488355328)(w:World)(hT:Zo w):
 Calls prog 335 #[.string s] w λe w'=>e=.returned (.int .i64 ps.length)/\Below w.heap.size w w':=by
 go_enter func335,ntmps335
 go_wp2_with (go_at_call 231;refine MR (Zj3 s ps y hs _ (by first|exact hT|exact ZK hT _)) λL j=>?_;have q:=j.size;try (obtain⟨J,I,D,C,u⟩:=Za6 (j.mono (by simp))))
 go_ret
 exact⟨rfl,by(repeat (first|exact Ze j|exact j|refine Below.alloc ?_ (by first|exact Nat.le_refl _|exact q|(simp;done)|(simp;omega)) _|refine Below.setCell ?_ (by first|exact Nat.le_refl _|exact q|(simp;done)|(simp;omega)) _))⟩
def Zp0(s:ByteArray)(n:Nat)(y:ZbP s n)(hs:s.size<=140737488355328)(w:World)(hT:Zo w):
 Calls prog 335 #[.string s] w λe w'=>e=.returned (.int .i64 0)/\Below w.heap.size w w':=by
 go_enter func335,ntmps335
 go_wp2_with (go_at_call 231;refine MR (ZoT s n y hs _ (by first|exact hT|exact ZK hT _)) λL j=>?_;have q:=j.size;try (obtain⟨J,I,D,C,u⟩:=Za6 (j.mono (by simp))))
 go_ret
 exact⟨rfl,by(repeat (first|exact Ze j|exact j|refine Below.alloc ?_ (by first|exact Nat.le_refl _|exact q|(simp;done)|(simp;omega)) _|refine Below.setCell ?_ (by first|exact Nat.le_refl _|exact q|(simp;done)|(simp;omega)) _))⟩
open Go
def Zc7(n:Int):UInt8:=if n<10 then(48+n).toNat.toUInt8 else(55+n).toNat.toUInt8
def Zcb(p:Int):List UInt8:=[Zc7 (p / 4096),Zc7 (p / 256 % 16),Zc7 (p / 16 % 16),Zc7 (p % 16),32]
def Zc8(ps:List Int):List UInt8:=ps.flatMap Zcb
def Zlr(ps:List Int):Prop:=∀p∈ps,0<=p/\p<=65535
def Ztu:List UInt8:=[48,49,50,51,52,53,54,55,56,57,65,66,67,68,69,70]
def ZwD{n:Int}(h0:0<=n)(j:n<16):n=0\/n=1\/n=2\/n=3\/n=4\/n=5\/n=6\/n=7\/n=8\/n=9\/n=10\/n=11\/n=12\/n=13\/n=14\/n=15:=by omega
def Zm9{n:Int}(h0:0<=n)(j:n<16):Lib.indexByte Ztu (Zc7 n)=n:=by
 rcases ZwD h0 j with rfl|rfl|rfl|rfl|rfl|rfl|rfl|rfl|rfl|rfl|rfl|rfl|rfl|rfl|rfl|rfl<;>decide
def Zi8(p:Int)(ps:List Int):Zc8 (p::ps)=Zcb p++Zc8 ps:=rfl
def Znb(ps:List Int):(Zc8 ps).length=5*ps.length:=by
 induction ps with
 |nil=>rfl
 |cons p ps j=>rw[Zi8,List.length_append,j,List.length_cons];simp[Zcb];omega
def Zna(ps:List Int)(k j:Nat)(q:k<ps.length)(y:j<5):(Zc8 ps)[5*k+j]?=(Zcb (ps.getD k 0))[j]?:=by
 induction ps generalizing k with
 |nil=>simp at q
 |cons p ps u=>
  rw[Zi8];cases k with
  |zero=>rw[List.getElem?_append_left (by simp[Zcb];omega)];simp
  |succ k=>
   rw[List.getElem?_append_right (by simp[Zcb];omega)];have e:5*(k+1)+j - (Zcb p).length=5*k+j:=by simp[Zcb];omega
   rw[e,u k (by simpa using q)];simp
def Zl5{p:Int}(h:0<=p/\p<=65535):(0<=p / 4096/\p / 4096<16)/\(0<=p / 256 % 16/\p / 256 % 16<16)/\(0<=p / 16 % 16/\p / 16 % 16<16)/\(0<=p % 16/\p % 16<16):=by omega
open Go Go.RowKit
def ZfN(p:Int)(w:World):
 Calls prog 295 #[.int .i32 p] w λe w'=>e=.returned (.bool (Zm p))/\w=w':=by
 go_enter func295,ntmps295
 go_wp2
 all_goals (go_ret;exact⟨ZcQ (by rw[Bool.eq_iff_iff,Zar];simp;try omega),rfl⟩)
def Zwi{p:Int}(h:Zm p=true):Lib.runeLen p=(Lib.encodeRune p).length:=by
 unfold Lib.runeLen;rcases ZmW h with⟨h0,j⟩|⟨h0,j⟩|q|⟨h0,j⟩
 ·rw[Ze8 h0 j];simp only[List.length_cons,List.length_nil];repeat' split
  all_goals omega
 ·rw[Zhf h0 j];simp only[List.length_cons,List.length_nil];repeat' split
  all_goals omega
 ·rw[Zhe q];simp only[List.length_cons,List.length_nil];repeat' split
  all_goals omega
 ·rw[Zhd h0 j];simp only[List.length_cons,List.length_nil];repeat' split
  all_goals omega
def Zlj{p:Int}(h:Zm p=true)(w:World):
 Calls prog 296 #[.int .i32 p] w λe w'=>e=.returned (.int .i64 (Lib.encodeRune p).length)/\w=w':=
 (utf8_RuneLen p w).mono λ_ _ ⟨he,hw⟩=>⟨by rw[he,Zwi h],hw.symm⟩
def ZE(ps:List Int):List Int:=ps.flatMap Lib.encodeRuneZ
def ZhW(a:List Int)(p:Int):ZE (a++[p])=ZE a++Lib.encodeRuneZ p:=by simp[ZE]
def ZhV(ps:List Int):(ZE ps).length=(Zd ps).length:=by
 induction ps with
 |nil=>rfl
 |cons p ps j=>
  rw[Za9,List.length_append,<-j];simp[ZE,Lib.encodeRune]
def ZhR(ps:List Int):strOfNums (ZE ps)=⟨(Zd ps).toArray⟩:=by
 unfold strOfNums;congr 2
 induction ps with
 |nil=>rfl
 |cons p ps j=>
  rw[Za9,<-j];simp[ZE,Lib.encodeRune]
def Zaz.get{w:World}{B:Nat}{k:IntKind}{A:Option Addr}{zs:List Int}{i:Nat}(h:Zaz w B k A zs)(q:i<zs.length):
 ∃j p,A=some j/\j.block<B/\w.cell? (j.add i)=some (.int k p)/\Hid (zs.getD i 0=p)/\p∈zs:=by
 obtain⟨j,e,hb,u⟩:=h.at_ q;exact⟨j,_,e,hb,u,rfl,Zeq q⟩
def Zg8:(prog.info? 5).map (λi=>(i.zero,i.size,i.bytes))=some (some (.int .u8 0),1,1):=by kernel_rfl
def Zwj:(prog.info? 21).map (λi=>(i.zero,i.size,i.bytes))=some (some (.int .i32 0),1,4):=by kernel_rfl
def Zsf(ps:List Int)(w0:World)(b i:Value)(wr:World):Prop:=
 ∃k:Nat,k<=ps.length/\i=.int .i64 k/\wr.ownsRow w0.heap.size 5 1 b (ZE (ps.take k)).length ((ZE (ps.take k)).map (Value.int .u8))/\Below w0.heap.size w0 wr
def Zlq(ps:List Int)(sz i:Value):Prop:=∃k:Nat,k<=ps.length/\i=.int .i64 k/\sz=.int .i64 (Zd (ps.take k)).length
def ZlB(A:Option Addr)(c:Nat)(ps:List Int)(w:World){B:Nat}(hn:Zaz w B .i32 A ps)(hB:B<=w.heap.size)(D:∀p∈ps,Zm p=true)(hl:ps.length<=35184372088000):
 Calls prog 248 #[.slice A ps.length c] w λe w'=>e=.returned (.tuple #[.string ⟨(Zd ps).toArray⟩,.bool true])/\Below w.heap.size w w':=by
 obtain⟨i0,hi,ac,ab,aa⟩:=info_parts Zg8;go_enter func248,ntmps248
 go_wp2_with fail
 go_loop [4,12] (λsz i=>Zlq ps sz i) (λ_ i=>ps.length - (intOf i).toNat)
 case atStart=>exact⟨0,Nat.zero_le _,rfl,rfl⟩
 case round=>
  obtain⟨k,hk,rfl,rfl⟩:=hrel;have h4:=(Zbp (ps.take k)).2;rw[List.length_take] at h4;by_cases u:k<ps.length
  ·obtain⟨ad,p,rfl,_,hc,hp,hm⟩:=hn.get u;have hs:=D p hm;have W:=ZcM p;have q:Hid ((Zd (ps.take (k+1))).length=(Zd (ps.take k)).length+(Lib.encodeRune p).length):=by
    rw[Zd7 u,hp.out,Zkg,List.length_append];rfl
   clear D hn;go_wp2_with (first|(go_at_call 295;refine(ZfN _ _).mono ?_;rintro e w' ⟨rfl,rfl⟩)|(go_at_call 296;refine(Zlj hs _).mono ?_;rintro e w' ⟨rfl,rfl⟩))
   go_round
   case rel=>exact⟨k+1,by omega,by go_num,by rw[q.out];go_num⟩
   case measure=>simp[intOf];omega
  ·have N:k=ps.length:=by omega
   subst N;rw[List.take_length] at h4⊢;clear u;go_wp2_with (at_make;refine wpList_make_own _ rfl _ _ 110 rfl w.heap.size 5 i0 (.int .u8 0) 1 underlying110 hi ac ab .i64 .i64 _ (Zd ps).length rfl rfl rfl (by rw[aa];omega) (by unfold maxLen;omega) NL ?_;intro w1 L C)
   have aj:Below w.heap.size w w1:=(Below.refl _ _).grown C NL (by simp);clear C;go_loopw [7,28] (λb i wr=>Zsf ps w b i wr) (λ_ i _=>ps.length - (intOf i).toNat)
   case atStart=>exact⟨0,Nat.zero_le _,rfl,L,aj⟩
   case round=>
    obtain⟨k,hk,rfl,j,J⟩:=hrel;have V:=hn.below (J.mono hB);have U:=J.size;have Y:=(Zbp (ps.take k)).2;rw[List.length_take] at Y;have Z:=ZhV (ps.take k);by_cases u:k<ps.length
    ·obtain⟨ad,p,rfl,_,hc,hp,hm⟩:=V.get u;have hs:=Zar.1 (D p hm);have W:=ZcM p;have X:(ZE (ps.take k)).length+4<=140737488355328:=by omega
     have q:Hid ((ZE (ps.take (k+1))).map (Value.int .u8)=(ZE (ps.take k)).map (Value.int .u8)++Lib.runeCells p):=by
      rw[Zd7 u,hp.out,ZhW,List.map_append];rfl
     have I:Hid ((ZE (ps.take (k+1))).length=(ZE (ps.take k)).length+(Lib.runeCells p).length):=by
      have:=congrArg List.length q.out;simp only[List.length_map,List.length_append] at this;exact this
     clear D hn V Y Z L;go_wp2_with (go_at_call 190;refine(utf8_AppendRune_plain _ _ _ _ p (by omega) (by omega) _ j X U).mono ?_;rintro e w2 ⟨v',rfl,y,o,ah⟩)
     have ai:Below w.heap.size w w2:=Zad (J.alloc U o) (j.alloc o) ah (by simp;omega) NL;rw[<-q.out,<-I.out] at y;go_roundw
     case rel=>exact⟨k+1,by omega,by go_num,y,ai⟩
     case measure=>simp[intOf];omega
    ·have N:k=ps.length:=by omega
     subst N;rw[List.take_length] at j;clear u;have O:=Zep (P:=prog) 110 9 5 underlying110 underlying5 underlying9 wr j;rw[ZhR] at O;go_wp2_with fail
     go_ret2
     exact⟨rfl,J⟩
def AllRel(ps:List Int)(i:Value):Prop:=∃k:Nat,k<=ps.length/\i=.int .i64 k/\∀p∈ps.take k,Zm p=true
def Zsg(A:Option Addr)(c:Nat)(ps:List Int)(w:World){B:Nat}(hn:Zaz w B .i32 A ps)(C:¬∀p∈ps,Zm p=true)(hl:ps.length<=35184372088000):
 Calls prog 248 #[.slice A ps.length c] w λe w'=>e=.returned (.tuple #[.string ⟨#[]⟩,.bool false])/\w=w':=by
 go_enter func248,ntmps248
 go_wp2_with fail
 go_loop [4,12] (λsz i=>Zlq ps sz i/\AllRel ps i) (λ_ i=>ps.length - (intOf i).toNat)
 case atStart=>exact⟨⟨0,Nat.zero_le _,rfl,rfl⟩,0,Nat.zero_le _,rfl,by simp⟩
 case round=>
  obtain⟨⟨k,hk,rfl,rfl⟩,y,_,J,j⟩:=hrel;have L:y=k:=by injection J with _ h;omega
  subst L;have Y:=(Zbp (ps.take y)).2;rw[List.length_take] at Y;by_cases I:y<ps.length
  ·obtain⟨ad,p,rfl,_,hc,U,Z⟩:=hn.get I;by_cases hs:Zm p=true
   ·have V:=ZcM p;have D:Hid ((Zd (ps.take (y+1))).length=(Zd (ps.take y)).length+(Lib.encodeRune p).length):=by
     rw[Zd7 I,U.out,Zkg,List.length_append];rfl
    have u:∀q∈ps.take (y+1),Zm q=true:=by
     rw[Zd7 I,U.out];intro q X;rcases List.mem_append.1 X with h|h
     ·exact j q h
     ·rw[List.mem_singleton.1 h];exact hs
    have N:=QQ u;clear C hn j u J;go_wp2_with (first|(go_at_call 295;refine(ZfN _ _).mono ?_;rintro e w' ⟨rfl,rfl⟩)|(go_at_call 296;refine(Zlj hs _).mono ?_;rintro e w' ⟨rfl,rfl⟩))
    go_round
    case rel=>exact⟨⟨y+1,by omega,by go_num,by rw[D.out];go_num⟩,y+1,by omega,by go_num,N⟩
    case measure=>simp[intOf];omega
   ·have W:Zm p=false:=by simpa using hs
    clear C hn j J hs;go_wp2_with (first|(go_at_call 295;refine(ZfN _ _).mono ?_;rintro e w' ⟨rfl,rfl⟩))
    go_ret2
    exact⟨rfl,rfl⟩
  ·exfalso
   have O:y=ps.length:=by omega
   subst O;rw[List.take_length] at j;exact C j
def ZjD{w:World}{base:Nat}{e:TypeId}{size:Nat}{v:Value}{n:Nat}{xs:List Value}(h:w.ownsRow base e size v n xs){K:Nat}{s:ByteArray}{i:Nat}(u:w.heap[K]?=some (.stringIter s i))(j:Nat):
 (w.iterAt K s j).ownsRow base e size v n xs:=by
 refine⟨h.1,?_⟩;rcases h.2 with hn|⟨g,cap,cur,C,hb,y,rest⟩
 ·exact .inl hn
 ·refine .inr ⟨g,cap,cur,C,hb,?_,rest⟩;have q:g≠K:=by
   rintro rfl;rw[y] at u;cases u
  rw[Lib.iterAt_other _ _ _ _ _ q];exact y
def Zjj{w:World}{base:Nat}{e:TypeId}{size:Nat}{v:Value}{n:Nat}{xs:List Value}(h:w.ownsRow base e size v n xs){K:Nat}{s:ByteArray}{i:Nat}(j:w.heap[K]?=some (.stringIter s i)):some K≠v.ownBlock:=by
 rcases h.2 with⟨rfl,_⟩|⟨g,cap,cur,rfl,hb,q,rest⟩
 ·simp[Value.ownBlock]
 ·intro he;have:K=g:=by simpa[Value.ownBlock] using he
  subst this;rw[q] at j;cases j
def ZcO{w:World}{K:Nat}{s:ByteArray}{i:Nat}(j:w.heap[K]?=some (.stringIter s i)):w.iterPos K=i:=by
 simp[World.iterPos,j]
def Zfg{w:World}{K:Nat}{s:ByteArray}{i:Nat}(j:w.heap[K]?=some (.stringIter s i)):K<w.heap.size:=(Array.getElem?_eq_some_iff.1 j).1
def Zge{P:Program}{s:ByteArray}{ps:List Int}{k i n:Nat}{p:Int}(h:Step s ps k i p n)(u:i<s.size)(w:World)(K:Nat)(q:w.heap[K]?=some (.stringIter s i))(ty:TypeId):
 (Instr.next (.pointer (some ⟨K,0,none⟩)) true ty).run P w=.ok (.tuple #[.bool true,.int .i64 i,.int .i32 p]) (w.iterAt K s (i+n)):=by
 obtain⟨⟨t,j⟩,hn,_,hs⟩:=h;rw[Lib.run_next_any_at w K s i ty q u,ZiT,j,Ze4 hs,hn];have e:((p.toNat:Nat):Int)=p:=by have:=Zar.1 hs;omega
 simp only[e]
def Zrr(ps:List Int)(s:ByteArray)(w0:World)(O:Obj)(K:Nat)(v:Value)(wr:World):Prop:=
 ∃k i:Nat,Run ps k i/\wr.heap[K]?=some (.stringIter s i)/\wr.ownsRow (w0.heap.size+1) 21 1 v k ((ps.take k).map (Value.int .i32))/\Below (w0.heap.size+1) (w0.alloc O) wr
def ZnY{w:World}{base:Nat}{e:TypeId}{size n:Nat}{j:Addr}{l c:Nat}{xs:List Value}(h:w.ownsRow base e size (.slice (some j) l c) n xs):j.spot=none:=by
 rcases h.2 with⟨h,_⟩|⟨g,cap,cur,h,_⟩
 ·cases h
 ·injection h with h
  injection h with h
  subst h;rfl
def Zvx{w:World}{base:Nat}{e:TypeId}{n:Nat}{q:Addr}{l c:Nat}{zs:List Int}{k:IntKind}(h:w.ownsRow base e 1 (.slice (some q) l c) n (zs.map (Value.int k))):∃cs fr,w.heap[q.block]?=some (.cells cs e fr)/\∀j,j<zs.length->cs[q.off+j]?=some (.int k (zs.getD j 0)):=by
 have I:zs.length=n:=by simpa using h.1
 rcases h.2 with⟨h,_⟩|⟨g,cap,cur,h,_,D,hn,_,hs,C⟩
 ·cases h
 ·injection h with h
  injection h with h
  subst h;refine⟨cur,(0,0),D,λj u=>?_⟩;have y:(cur.toList.take (n*1))[j]?=(zs.map (Value.int k))[j]?:=by rw[C]
  rw[List.getElem?_take_of_lt (by omega),List.getElem?_map,List.getElem?_eq_getElem u,Array.getElem?_toList] at y;rw[Nat.zero_add,y,List.getD,List.getElem?_eq_getElem u];rfl
def Zrs(s:ByteArray)(ps:List Int)(hg:Good s ps)(hs:s.size<=35184372088000)(w:World)(hT:Zo w):
 Calls prog 249 #[.string s] w λe w'=>∃A c,e=.returned (.tuple #[.slice A ps.length c,.agg #[.int .i64 0,.int .i64 0]])/\ps.length<=c/\Zaz w' w'.heap.size .i32 A ps/\(∀ad,A=some ad->w.heap.size<=ad.block/\ad.spot=none/\∃cs fr,w'.heap[ad.block]?=some (.cells cs 21 fr)/\∀j,j<ps.length->cs[ad.off+j]?=some (.int .i32 (ps.getD j 0)))/\Below w.heap.size w w':=by
 obtain⟨i0,hi,aj,ai,ah⟩:=info_parts Zwj;have aO:=hg.len;have hp:=hg.pre;go_enter func249,ntmps249
 go_wp2_with (go_at_call 231;refine MR (Zj3 s ps hg (by omega) _ (by first|exact hT|exact ZK hT _)) λw1 U=>?_;have aU:=ZY U;have ae:=U.mono (B':=w.heap.size+1) (by simp);obtain⟨aa,Z,aw,au,W⟩:=Za6 ae)
 refine MR (Zed _ _ _) λw2 ac=>?_;have aT:=ZY ac;have aA:=(ae.alloc (by omega) _).trans (ac.mono (by simp;omega));clear U aa Z aw au W ac;go_wp2_with (at_make;refine wpList_make_own _ rfl _ _ 297 rfl (w.heap.size+1) 21 i0 (.int .i32 0) 1 underlying297 hi aj ai .i64 .i64 _ ps.length rfl rfl rfl (by rw[ah];omega) (by unfold maxLen;omega) (by omega) ?_;intro I V D)
 have aL:=aA.grown D (by omega) (by simp);have aS:=D.size;have C:=V.alloc (.stringIter s 0);have hit:=World.iter_heap I s 0;clear V D aA ae;go_loopw [6] (λv wr=>Zrr ps s w (.cells #[.int .i64 0,.int .i64 0] 34) I.heap.size v wr) (λ_ wr=>s.size+1 - wr.iterPos I.heap.size)
 case atStart=>exact⟨0,0,Run.zero _,hit,C,aL.alloc (by omega) _⟩
 case round=>
  obtain⟨k,i,J,hK,q,ab⟩:=hrel;have a1:=J.le hp;have aR:=Zfg hK;by_cases hk:k<ps.length
  ·obtain⟨p,n,ao,X,aZ,aY,a2,aX,aW,_⟩:=J.step hp hk;have aB:=λty=>Zge (P:=prog) ao (by omega) wr I.heap.size hK ty;have N:=ZjD q hK (i+n);have aK:=Lib.iterAt_heap wr I.heap.size s i (i+n) hK;have U:=Lib.below_iterAt ab (k:=I.heap.size) (by omega) s (i+n);have an:(wr.iterAt I.heap.size s (i+n)).heap.size=wr.heap.size:=Lib.iterAt_size _ _ _ _;have ap:=ZcO hK;have O:=cell_one_new (wr.iterAt I.heap.size s (i+n)) (.int .i32 p) 21;rw[an] at O;have ak:w.heap.size+1<=((wr.iterAt I.heap.size s (i+n)).alloc (.cells #[.int .i32 p] 21)).heap.size:=by simp;omega
   have Y:Hid ((ps.take (k+1)).map (Value.int .i32)=(ps.take k).map (Value.int .i32)++[.int .i32 p]):=by
    rw[ao.snoc hk,List.map_append];rfl
   have az:=Below.heap_alloc (wr.iterAt I.heap.size s (i+n)) (.cells #[.int .i32 p] 21) I.heap.size (by omega);rw[aK] at az;clear C;go_wp2_with (at_builtin;refine wpList_append_own _ rfl _ _ 297 rfl (w.heap.size+1) 21 i0 (.int .i32 0) 1 4 underlying297 hi aj ai ah rfl (by decide) u6 k _ rfl (N.alloc _) ⟨wr.heap.size,0,none⟩ 1 1 [.int .i32 p] rfl rfl O (by intro u hu;simp at hu;subst hu;rfl) (by unfold maxLen;omega) (by omega) ak ?_;intro v' w5 L aq _)
   have ay:=(aq.block I.heap.size (by simp;omega) (Zjj q hK)).trans az;rw[<-Y.out] at L;have aI:=Zad (U.alloc (by omega) (.cells #[.int .i32 p] 21)) (N.alloc _) aq ak NL;refine⟨⟨k+1,i+n,X,ay,L,aI⟩,?_⟩;rw[ap,ZcO ay];omega
  ·have aE:k=ps.length:=by omega
   subst aE;obtain⟨hi,_,aF⟩:=J.end_ hp;have aQ:=λty=>Lib.run_next_end_at (P:=prog) wr I.heap.size s i ty hK (by simp at aF;omega);obtain⟨aa,Z,aw,au,W⟩:=Za6 ab;rw[List.take_length] at q;clear C;go_wp2_with fail
   obtain⟨A,c,hv,ax,_,_⟩:=Zaz.of_own q;have y:=ownsRow_setCell_below (ownsRow_setCell_below q (a:=⟨w.heap.size,0,none⟩) (Nat.lt_succ_self _) (.int .i64 0)) (a:=⟨w.heap.size,1,none⟩) (Nat.lt_succ_self _) (.int .i64 0);subst hv;obtain⟨A',c',am,_,_,aD⟩:=Zaz.of_own y;simp only[Value.slice.injEq] at am;obtain⟨rfl,_,_⟩:=am;refine bodyPost_ret (v:=.tuple #[.slice A ps.length c,.agg #[.int .i64 0,.int .i64 0]]) (by simp[results,results249,go_sem,aa,Z]) rfl ⟨A,c,rfl,ax,aD,λad aJ=>by subst aJ;have:=(y.lt _ rfl).1;exact⟨by omega,ZnY y,Zvx y⟩,?_⟩;exact(((((Below.refl _ w).alloc NL _).trans (ab.mono (by omega))).setCell NL _).setCell NL _)
def ZlE(s:ByteArray)(hs:s.size<=140737488355328)(w:World)(hT:Zo w):
 Calls prog 100 #[.string s] w λe w'=>e=.returned (.bool (Lib.validD s.data.toList))/\Below w.heap.size w w':=by
 have q:=Any.utf8_ValidString laysValid s w (by omega) hT;go_enter func100,ntmps100
 go_wp2_with (go_at_call 168;refine q.mono ?_;rintro e u ⟨rfl,j⟩)
 go_ret
 exact⟨rfl,j⟩
open Go
def Zt(big:Bool)(a b:UInt8):Int:=if big then(a.toNat:Int)*256+b.toNat else(b.toNat:Int)*256+a.toNat
def Zv(big:Bool):List UInt8->Int×Nat
 |a::b::r=>
  if Zt big a b<55296\/57344<=Zt big a b then(Zt big a b,2)
  else if 56320<=Zt big a b then(0,0)
  else match r with
   |c::d::_=>if Zt big c d<56320\/57344<=Zt big c d then(0,0) else(65536+(Zt big a b - 55296)*1024+(Zt big c d - 56320),4)
   |_=>(0,0)
 |_=>(0,0)
def two(big:Bool)(u:Int):List UInt8:=if big then [(u / 256).toNat.toUInt8,(u % 256).toNat.toUInt8] else [(u % 256).toNat.toUInt8,(u / 256).toNat.toUInt8]
def Za1(big:Bool)(p:Int):List UInt8:=if p<65536 then two big p else two big (55296+(p - 65536) / 1024)++two big (56320+(p - 65536) % 1024)
def Zx(big:Bool)(ps:List Int):List UInt8:=ps.flatMap (Za1 big)
def ZfD(big:Bool):Zx big []=[]:=rfl
def ZeM(big:Bool)(p:Int)(ps:List Int):Zx big (p::ps)=Za1 big p++Zx big ps:=rfl
def Zkw(big:Bool)(a b:List Int):Zx big (a++b)=Zx big a++Zx big b:=by simp[Zx]
def ZhY(big:Bool)(a b:UInt8):0<=Zt big a b/\Zt big a b<65536:=by
 have:=a.toNat_lt;have:=b.toNat_lt;unfold Zt;split<;>omega
def Zki(big:Bool){u:Int}(h0:0<=u)(j:u<65536):∃a b,two big u=[a,b]/\Zt big a b=u:=by
 cases big
 ·refine⟨_,_,rfl,?_⟩;simp only[Zt,Bool.false_eq_true,if_false,Zb1 (u / 256) (by omega) (by omega),Zb1 (u % 256) (by omega) (by omega)];omega
 ·refine⟨_,_,rfl,?_⟩;simp only[Zt,if_true,Zb1 (u / 256) (by omega) (by omega),Zb1 (u % 256) (by omega) (by omega)];omega
def Zkj(big:Bool)(a b:UInt8):two big (Zt big a b)=[a,b]:=by
 have:=a.toNat_lt;have:=b.toNat_lt;cases big<;>simp only[two,Zt,Bool.false_eq_true,if_false,if_true,List.cons.injEq,and_true]<;>exact⟨ZbN (by omega),ZbN (by omega)⟩
def Zxe(big:Bool)(u:Int):(two big u).length=2:=by unfold two;split<;>rfl
def ZhZ(big:Bool)(p:Int):(Za1 big p).length=if p<65536 then 2 else 4:=by
 unfold Za1;split<;>simp[Zxe]
def ZgF(big:Bool)(p:Int):2<=(Za1 big p).length/\(Za1 big p).length<=4:=by
 rw[ZhZ];split<;>omega
def Zpz(big:Bool)(p:Int):Za1 big p≠[]:=by
 intro h;have:=(ZgF big p).1;rw[h] at this;simp at this
def ZpF(big:Bool){p:Int}(h:Zm p=true)(t:List UInt8):Zv big (Za1 big p++t)=(p,(Za1 big p).length):=by
 rw[Zar] at h;rw[ZhZ];unfold Za1;by_cases j:p<65536
 ·rw[if_pos j,if_pos j];obtain⟨a,b,e,q⟩:=Zki big (u:=p) (by omega) j;rw[e];simp only[List.cons_append,List.nil_append,Zv,q];rw[if_pos (by omega)]
 ·rw[if_neg j,if_neg j];obtain⟨a,b,e,q⟩:=Zki big (u:=55296+(p - 65536) / 1024) (by omega) (by omega);obtain⟨c,d,C,y⟩:=Zki big (u:=56320+(p - 65536) % 1024) (by omega) (by omega);rw[e,C];simp only[List.cons_append,List.nil_append,Zv,q,y];rw[if_neg (by omega),if_neg (by omega),if_neg (by omega)];exact Prod.ext (by simp only;omega) rfl
def ZxI(big:Bool){l:List UInt8}(he:(Zv big l).2≠0):∃t,l=Za1 big (Zv big l).1++t/\Zm (Zv big l).1=true/\(Za1 big (Zv big l).1).length=(Zv big l).2:=by
 match l with
 |[]=>exact absurd rfl he
 |[_]=>exact absurd rfl he
 |a::b::r=>
  have I:=ZhY big a b;by_cases j:Zt big a b<55296\/57344<=Zt big a b
  ·simp only[Zv,if_pos j];refine⟨r,?_,by rw[Zar];omega,by rw[ZhZ,if_pos (by omega)]⟩;rw[Za1,if_pos (by omega),Zkj];rfl
  ·by_cases q:56320<=Zt big a b
   ·simp only[Zv,if_neg j,if_pos q] at he;exact absurd rfl he
   ·match r with
    |[]=>simp only[Zv,if_neg j,if_neg q] at he;exact absurd rfl he
    |[_]=>simp only[Zv,if_neg j,if_neg q] at he;exact absurd rfl he
    |c::d::r=>
     have D:=ZhY big c d;by_cases u:Zt big c d<56320\/57344<=Zt big c d
     ·simp only[Zv,if_neg j,if_neg q,if_pos u] at he;exact absurd rfl he
     ·simp only[Zv,if_neg j,if_neg q,if_neg u];refine⟨r,?_,by rw[Zar];omega,by rw[ZhZ,if_neg (by omega)]⟩;rw[Za1,if_neg (by omega)];have C:55296+(65536+(Zt big a b - 55296)*1024+(Zt big c d - 56320) - 65536) / 1024=Zt big a b:=by omega
      have y:56320+(65536+(Zt big a b - 55296)*1024+(Zt big c d - 56320) - 65536) % 1024=Zt big c d:=by omega
      rw[C,y,Zkj,Zkj];rfl
def Zej(big:Bool)(s:ByteArray)(ps:List Int)(r:List UInt8):Prop:=s.data.toList=Zx big ps++r/\∀p∈ps,Zm p=true
def ZfR(big:Bool)(s:ByteArray)(ps:List Int):Prop:=Zej big s ps []
def ZfQ(big:Bool)(s:ByteArray)(n:Nat):Prop:=∃ps r,Zej big s ps r/\n=(Zx big ps).length/\r≠[]/\(Zv big r).2=0
def Zbl(big:Bool)(ps:List Int)(k i:Nat):Prop:=k<=ps.length/\i=(Zx big (ps.take k)).length
def Zpe(big:Bool):∀n (l:List UInt8),l.length<=n->∃ps r,l=Zx big ps++r/\(∀p∈ps,Zm p=true)/\(r=[]\/(Zv big r).2=0)
 |0,l,h=>⟨[],[],by simpa[ZfD] using h,by simp,.inl rfl⟩
 |n+1,l,h=>by
  by_cases he:(Zv big l).2=0
  ·exact⟨[],l,by simp[ZfD],by simp,.inr he⟩
  obtain⟨t,y,hs,_⟩:=ZxI big he;have q:t.length<=n:=by
   have u:=congrArg List.length y;rw[List.length_append] at u;have:=(ZgF big (Zv big l).1).1;omega
  obtain⟨ps,r,u,D,C⟩:=Zpe big n t q;refine⟨(Zv big l).1::ps,r,?_,?_,C⟩
  ·rw[ZeM,List.append_assoc,<-u];exact y
  ·intro p j;rcases List.mem_cons.1 j with rfl|j
   ·exact hs
   ·exact D p j
def Zxz(big:Bool)(s:ByteArray):(∃ps,ZfR big s ps)\/∃n,ZfQ big s n:=by
 obtain⟨ps,r,u,q,y⟩:=Zpe big _ s.data.toList NL;by_cases j:r=[]
 ·subst j;exact .inl ⟨ps,u,q⟩
 ·exact .inr ⟨_,ps,r,⟨u,q⟩,rfl,j,y.resolve_left j⟩
def Zbl.zero(big:Bool)(ps:List Int):Zbl big ps 0 0:=⟨Nat.zero_le _,rfl⟩
def Zbl.drop{big:Bool}{s:ByteArray}{ps:List Int}{r:List UInt8}{k i:Nat}(j:Zej big s ps r)(h:Zbl big ps k i):s.data.toList.drop i=Zx big (ps.drop k)++r:=by
 have e:Zx big ps=Zx big (ps.take k)++Zx big (ps.drop k):=by rw[<-Zkw,List.take_append_drop]
 rw[j.1,e,List.append_assoc,h.2,List.drop_left]
def Zbl.next{big:Bool}{ps:List Int}{k i:Nat}(h:Zbl big ps k i)(j:k<ps.length):Zbl big ps (k+1) (i+(Za1 big (ps.getD k 0)).length):=
 ⟨j,by rw[Zd7 j,Zkw,List.length_append,<-h.2,ZeM,ZfD,List.append_nil]⟩
def Zbl.end_{big:Bool}{s:ByteArray}{ps:List Int}{r:List UInt8}{i:Nat}(j:Zej big s ps r)(h:Zbl big ps ps.length i):i=(Zx big ps).length/\s.data.toList.drop i=r/\i+r.length=s.size:=by
 have hd:=h.drop j;rw[List.drop_length,ZfD,List.nil_append] at hd;have q:=h.2;rw[List.take_length] at q;refine⟨q,hd,?_⟩;have u:=congrArg List.length j.1;rw[List.length_append] at u;have hs:s.data.toList.length=s.size:=by simp
 omega
def Zfi(big:Bool)(ps:List Int):2*ps.length<=(Zx big ps).length/\(Zx big ps).length<=4*ps.length:=by
 induction ps with
 |nil=>simp[ZfD]
 |cons p ps j=>
  have:=ZgF big p;rw[ZeM,List.length_append,List.length_cons];omega
def Zbl.le{big:Bool}{s:ByteArray}{ps:List Int}{r:List UInt8}{k i:Nat}(j:Zej big s ps r)(h:Zbl big ps k i):2*k<=i/\i<=s.size/\k<=ps.length:=by
 have u:=(Zfi big (ps.take k)).1;rw[List.length_take,<-h.2] at u;have h0:=h.1;have q:=congrArg List.length j.1;have e:Zx big ps=Zx big (ps.take k)++Zx big (ps.drop k):=by rw[<-Zkw,List.take_append_drop]
 rw[e,List.length_append,List.length_append,<-h.2] at q;have hs:s.data.toList.length=s.size:=by simp
 omega
def Zek(big:Bool)(s:ByteArray)(ps:List Int)(k i:Nat)(p:Int)(n:Nat):Prop:=
 (∃t,s.data.toList.drop i=Za1 big p++t)/\n=(Za1 big p).length/\p=ps.getD k 0/\Zm p=true
def Zbl.step{big:Bool}{s:ByteArray}{ps:List Int}{r:List UInt8}{k i:Nat}(u:Zej big s ps r)(h:Zbl big ps k i)(q:k<ps.length):
 ∃(p:Int) (n:Nat),Zek big s ps k i p n/\Zbl big ps (k+1) (i+n)/\2<=n/\n<=4/\i+n<=s.size/\0<=p/\p<=1114111:=by
 have hd:=h.drop u;rw[Zms q,ZeM,List.append_assoc] at hd;have D:=congrArg List.length hd;rw[List.length_drop,List.length_append] at D;have C:=ZgF big (ps.getD k 0);have hs:s.data.toList.length=s.size:=by simp
 have j:=u.2 _ (Zeq q);have y:=Zar.1 j;exact⟨_,_,⟨⟨_,hd⟩,rfl,rfl,j⟩,h.next q,C.1,C.2,by omega,y.1,y.2.1⟩
def Zek.snoc{big:Bool}{s:ByteArray}{ps:List Int}{k i n:Nat}{p:Int}(h:Zek big s ps k i p n)(j:k<ps.length):ps.take (k+1)=ps.take k++[p]:=by
 rw[Zd7 j,h.2.2.1]
def Zek.sign{big:Bool}{s:ByteArray}{ps:List Int}{k i n:Nat}{p:Int}(h:Zek big s ps k i p n):Zv big (s.data.toList.drop i)=(p,n):=by
 obtain⟨⟨t,j⟩,hn,_,hs⟩:=h;rw[j,ZpF big hs,hn]
open Go Go.RowKit
def ZiS(l:List UInt8):Lib.decodeL l=ZA l:=by
 unfold Lib.decodeL;rw[ZiT];rfl
def Zpw:∀(ps:List Int) (n:Nat),(∀p∈ps,Zm p=true)->Lib.validGoD n (Zd ps)=true
 |_,0,_=>rfl
 |[],n+1,_=>by simp[Lib.validGoD,Zb0]
 |p::ps,n+1,h=>by
  have hs:=h p (List.mem_cons_self ..);have hd:ZA (Zd (p::ps))=(p.toNat,(Lib.encodeRune p).length):=by rw[Za9];exact Ze4 hs _
  have he:=Zjw hs (Zd ps);rw[<-Za9] at he;unfold Lib.validGoD;rw[ZiS,hd] at*;split
  ·rfl
  ·rw[if_neg]
   ·have:(Zd (p::ps)).drop (Lib.encodeRune p).length=Zd ps:=by rw[Za9,List.drop_left]
    simp only;rw[this];exact Zpw ps n λq j=>h q (List.mem_cons_of_mem _ j)
   ·rintro⟨y,u⟩;exact he ⟨y,by simp only at u⊢;omega⟩
def Ztt(n b0 b1 q j:Nat):1<=(Lib.decodeN n b0 b1 q j).2:=by
 unfold Lib.decodeN
 repeat' split
 all_goals simp
def ZtO{l:List UInt8}(h:ZbR (ZA l)):(ZA l).1=65533/\(ZA l).2=1:=by
 have:=Ztt l.length (l.getD 0 0).toNat (l.getD 1 0).toNat (l.getD 2 0).toNat (l.getD 3 0).toNat;have j:=h.2;unfold ZA at j⊢;exact⟨h.1,by omega⟩
def Zpv:∀(ps:List Int) (r:List UInt8) (n:Nat),ps.length<n->(∀p∈ps,Zm p=true)->r≠[]->ZbR (ZA r)->Lib.validGoD n (Zd ps++r)=false
 |_,_,0,hn,_,_,_=>by omega
 |[],r,n+1,_,_,u,he=>by
  unfold Lib.validGoD;rw[Zb0,List.nil_append,if_neg u,ZiS,if_pos (ZtO he)]
 |p::ps,r,n+1,hn,h,u,he=>by
  have hs:=h p (List.mem_cons_self ..);have hd:ZA (Zd (p::ps)++r)=(p.toNat,(Lib.encodeRune p).length):=by rw[Za9,List.append_assoc];exact Ze4 hs _
  have j:=Zjw hs (Zd ps++r);rw[<-List.append_assoc,<-Za9] at j;unfold Lib.validGoD;rw[ZiS,hd] at*;rw[if_neg (by intro h0;exact u (List.append_eq_nil_iff.1 h0).2),if_neg]
  ·have:(Zd (p::ps)++r).drop (Lib.encodeRune p).length=Zd ps++r:=by rw[Za9,List.append_assoc,List.drop_left]
   simp only;rw[this];exact Zpv ps r n (by simp at hn;omega) (λq y=>h q (List.mem_cons_of_mem _ y)) u he
  ·rintro⟨D,C⟩;exact j ⟨D,by simp only at C⊢;omega⟩
def Good.valid{s:ByteArray}{ps:List Int}(h:Good s ps):Lib.validD s.data.toList=true:=by
 unfold Lib.validD;rw[h.1];exact Zpw ps _ h.2
def ZbP.valid{s:ByteArray}{n:Nat}(h:ZbP s n):Lib.validD s.data.toList=false:=by
 obtain⟨ps,r,y,u,_,j,q⟩:=h;unfold Lib.validD;rw[y];refine Zpv ps r _ ?_ u j q;have:=(Zbp ps).1;have:0<r.length:=List.length_pos_iff.2 j;rw[List.length_append];omega
def Zst(s:ByteArray)(ps:List Int)(j:Good s ps)(hs:s.size<=140737488355328)(w:World)(hT:Zo w):
 Calls prog 100 #[.string s] w λe w'=>e=.returned (.bool true)/\Below w.heap.size w w':=by
 have h:=ZlE s hs w hT;rw[j.valid] at h;exact h
def Zss(s:ByteArray)(n:Nat)(j:ZbP s n)(hs:s.size<=140737488355328)(w:World)(hT:Zo w):
 Calls prog 100 #[.string s] w λe w'=>e=.returned (.bool false)/\Below w.heap.size w w':=by
 have h:=ZlE s hs w hT;rw[j.valid] at h;exact h
def ZnK(w:World)(e:TypeId)(z:Int)(k:IntKind):Zaz (w.alloc (.cells #[.int k z] e)) (w.heap.size+1) k (some ⟨w.heap.size,0,none⟩) [z]:=Zu9 w e [z] k
def Ziu(p:Int)(j:Zm p=true)(c:Nat)(w:World):
 Calls prog 248 #[.slice (some ⟨w.heap.size,0,none⟩) 1 c] (w.alloc (.cells #[.int .i32 p] 21)) λe w'=>e=.returned (.tuple #[.string ⟨(Lib.encodeRune p).toArray⟩,.bool true])/\Below (w.alloc (.cells #[.int .i32 p] 21)).heap.size (w.alloc (.cells #[.int .i32 p] 21)) w':=by
 have h:=ZlB (some ⟨w.heap.size,0,none⟩) c [p] _ (ZnK w 21 p .i32) (by simp) (by simpa using j) (by simp);have e:Zd [p]=Lib.encodeRune p:=by simp[Zd]
 rw[e] at h;exact h
def Zsh(p:Int)(j:Zm p=false)(c:Nat)(w:World):
 Calls prog 248 #[.slice (some ⟨w.heap.size,0,none⟩) 1 c] (w.alloc (.cells #[.int .i32 p] 21)) λe w'=>e=.returned (.tuple #[.string ⟨#[]⟩,.bool false])/\(w.alloc (.cells #[.int .i32 p] 21))=w':=
 Zsg (some ⟨w.heap.size,0,none⟩) c [p] _ (ZnK w 21 p .i32) (by simp[j]) (by simp)
open Go
def B(l:List UInt8):ByteArray:=⟨l.toArray⟩
def Z9(l:List UInt8):(B l).data.toList=l:=by simp[B]
def Zj(l:List UInt8):(B l).size=l.length:=by simp[B,ByteArray.size]
def ZdC(s:ByteArray):s=B s.data.toList:=by simp[B]
def ZgG(l:List UInt8)(a b:Nat):(B l).extract a b=B ((l.take b).drop a):=by
 rw[ZdC ((B l).extract a b)];congr 1
 simp[B,ByteArray.data_extract,List.extract,List.drop_take]
def Zby(l:List UInt8)(a b:Nat):(B l).extract a b=B ((l.drop a).take (b - a)):=by
 rw[ZgG,List.drop_take]
def Zmr(c:UInt8):Bool:=decide (48<=c.toNat)&&decide (c.toNat<=57)
def Zem(c:UInt8):Bool:=Zmr c||(decide (65<=c.toNat)&&decide (c.toNat<=90))
open Go Go.RowKit
structure But (C B:Nat)(w w':World):Prop where
 os:w'.os=w.os
 tape:w'.tape=w.tape
 output:w'.output=w.output
 size:w.heap.size<=w'.heap.size
 block:∀k,k<B->k≠C->w'.heap[k]? =w.heap[k]?
def But.of{C B:Nat}{w w':World}(h:Below B w w'):But C B w w':=⟨h.os,h.tape,h.output,h.size,λk j _=>h.block k j⟩
def But.refl(C B:Nat)(w:World):But C B w w:=.of (Below.refl B w)
def But.trans{C B:Nat}{a b c:World}(h:But C B a b)(k:But C B b c):But C B a c:=
 ⟨k.os.trans h.os,k.tape.trans h.tape,k.output.trans h.output,Nat.le_trans h.size k.size,λi j q=>(k.block i j q).trans (h.block i j q)⟩
def But.mono{C B B':Nat}{w w':World}(h:But C B w w')(hB:B'<=B):But C B' w w':=⟨h.os,h.tape,h.output,h.size,λk j=>h.block k (Nat.lt_of_lt_of_le j hB)⟩
def But.alloc{C B:Nat}{a w:World}(h:But C B a w)(hB:B<=w.heap.size)(o:Obj):But C B a (w.alloc o):=h.trans (.of ((Below.refl B w).alloc hB o))
def But.setCell{C B:Nat}{a w:World}(h:But C B a w){p:Addr}(j:B<=p.block\/p.block=C)(u:Value):But C B a (w.setCell p u):=
 h.trans ⟨rfl,rfl,rfl,by simp[World.setCell],λk q y=>Below.heap_setCell _ _ _ _ (by rcases j with j|j<;>omega)⟩
def But.below{C B:Nat}{w w':World}(h:But C B w w')(hB:B<=C):Below B w w':=⟨h.os,h.tape,h.output,h.size,λk j=>h.block k j (by omega)⟩
def But.cell{C B:Nat}{w w':World}(h:But C B w w'){p:Addr}(j:p.block<B)(q:p.block≠C):w'.cell? p=w.cell? p:=World.cell?_of_block (w:=w) (h.block p.block j q)
def ZiF{C:Nat}{w j:World}{o:Obj}(h:But C (w.alloc o).heap.size (w.alloc o) j):But C w.heap.size w j:=
 ((But.refl C w.heap.size w).alloc NL o).trans (h.mono (by simp))
def ZdX{C:Nat}{w j:World}{base:Nat}{e:TypeId}{size:Nat}{v:Value}{n:Nat}{xs:List Value}(h:w.ownsRow base e size v n xs)(hb:But C w.heap.size w j)(y:C<base):j.ownsRow base e size v n xs:=
 h.kept (row:=some C) ⟨hb.os,hb.tape,hb.output,hb.size,λk q u=>hb.block k q (λe=>u (by rw[e]))⟩ (.inr λe=>by
  have:=(h.lt C e).1;omega)
def ZsQ{C:Nat}{w w':World}(hb:But C w.heap.size w w'):w.grownBy w' (some C):=⟨hb.os,hb.tape,hb.output,hb.size,λk j q=>hb.block k j (λe=>q (by rw[e]))⟩
def bx3'{w wr:World}{T:TypeId}{a b c:Value}(hb:Below (w.alloc (.cells #[a,b,c] T)).heap.size (w.alloc (.cells #[a,b,c] T)) wr):
 wr.cell? ⟨w.heap.size,0,none⟩=some a/\wr.cell? ⟨w.heap.size,1,none⟩=some b/\wr.cell? ⟨w.heap.size,2,none⟩=some c/\wr.frozen? ⟨w.heap.size,0,none⟩=false/\wr.frozen? ⟨w.heap.size,1,none⟩=false/\wr.frozen? ⟨w.heap.size,2,none⟩=false/\w.heap.size<wr.heap.size:=by
 have q:=hb.size;simp only[World.size_alloc] at q;have j:w.heap.size<(w.alloc (.cells #[a,b,c] T)).heap.size:=by simp
 have e:=heap_alloc_new w (.cells #[a,b,c] T);refine⟨?_,?_,?_,?_,?_,?_,by omega⟩
 ·rw[hb.cell (p:=⟨w.heap.size,0,none⟩) j,cell_of_row _ w.heap.size 0 _ T (0,0) e];rfl
 ·rw[hb.cell (p:=⟨w.heap.size,1,none⟩) j,cell_of_row _ w.heap.size 1 _ T (0,0) e];rfl
 ·rw[hb.cell (p:=⟨w.heap.size,2,none⟩) j,cell_of_row _ w.heap.size 2 _ T (0,0) e];rfl
 ·rw[hb.frozen (p:=⟨w.heap.size,0,none⟩) j,frozen_of_row _ w.heap.size 0 _ T e]
 ·rw[hb.frozen (p:=⟨w.heap.size,1,none⟩) j,frozen_of_row _ w.heap.size 1 _ T e]
 ·rw[hb.frozen (p:=⟨w.heap.size,2,none⟩) j,frozen_of_row _ w.heap.size 2 _ T e]
end Go.Proofs.YtjilfbhkdjanhaaGreatDoor
namespace Go.Proofs
open Go.Shelf
def laysSort_ren:Go.Shelf.Ren:=⟨λ|6=>347|15=>367|14=>366|28=>383|29=>384|20=>375|21=>376|22=>377|23=>378|24=>379|25=>380|26=>381|27=>382|46=>388|47=>389|48=>390|49=>391|50=>392|57=>393|n=>n,λ|22=>212|24=>316|25=>366|3=>3|39=>109|0=>0|53=>54|55=>53|4=>4|46=>384|45=>383|50=>232|5=>5|9=>9|66=>391|70=>395|76=>397|77=>238|n=>n,λ|n=>n⟩
def laysSort:Go.Proofs.SlLaysF0.n6 prog laysSort_ren:={
 mixed:=by kernel_rfl
 f6:=⟨Tryz.f347.name,by decide,func347.trans (congrArg some (by kernel_rfl))⟩
 f14:=⟨Tryz.f366.name,by decide,func366.trans (congrArg some (by kernel_rfl))⟩
 f15:=func367.trans (congrArg some (by kernel_rfl))
 f20:=⟨Tryz.f375.name,by decide,func375.trans (congrArg some (by kernel_rfl))⟩
 f21:=⟨Tryz.f376.name,by decide,func376.trans (congrArg some (by kernel_rfl))⟩
 f22:=⟨Tryz.f377.name,by decide,func377.trans (congrArg some (by kernel_rfl))⟩
 f23:=⟨Tryz.f378.name,by decide,func378.trans (congrArg some (by kernel_rfl))⟩
 f24:=⟨Tryz.f379.name,by decide,func379.trans (congrArg some (by kernel_rfl))⟩
 f25:=⟨Tryz.f380.name,by decide,func380.trans (congrArg some (by kernel_rfl))⟩
 f26:=⟨Tryz.f381.name,by decide,func381.trans (congrArg some (by kernel_rfl))⟩
 f27:=⟨Tryz.f382.name,by decide,func382.trans (congrArg some (by kernel_rfl))⟩
 f28:=func383.trans (congrArg some (by kernel_rfl))
 f29:=func384.trans (congrArg some (by kernel_rfl))
 f46:=⟨Tryz.f388.name,by decide,func388.trans (congrArg some (by kernel_rfl))⟩
 f47:=func389.trans (congrArg some (by kernel_rfl))
 f48:=func390.trans (congrArg some (by kernel_rfl))
 f49:=⟨Tryz.f391.name,by decide,func391.trans (congrArg some (by kernel_rfl))⟩
 f50:=⟨Tryz.f392.name,by decide,func392.trans (congrArg some (by kernel_rfl))⟩
 f57:=⟨Tryz.f393.name,by decide,func393.trans (congrArg some (by kernel_rfl))⟩
 t0:=underlying0
 a0:=isAgg0
 z0:=sizeOf0
 v0:=zeroValue0
 t3:=underlying3
 a3:=isAgg3
 z3:=sizeOf3
 v3:=zeroValue3
 t4:=underlying4
 a4:=isAgg4
 z4:=sizeOf4
 v4:=zeroValue4
 t5:=underlying5
 a5:=isAgg5
 z5:=sizeOf5
 v5:=zeroValue5
 t9:=underlying9
 a9:=isAgg9
 z9:=sizeOf9
 v9:=zeroValue9
 t22:=underlying212
 a22:=isAgg212
 z22:=sizeOf212
 v22:=zeroValue212
 t25:=underlying366
 a25:=isAgg366
 z25:=sizeOf366
 v25:=zeroValue366
 t39:=underlying109
 a39:=isAgg109
 z39:=sizeOf109
 v39:=zeroValue109
 t45:=underlying383
 a45:=isAgg383
 z45:=sizeOf383
 v45:=zeroValue383
 t46:=underlying384
 a46:=isAgg384
 z46:=sizeOf384
 v46:=zeroValue384
 t50:=underlying232
 a50:=isAgg232
 z50:=sizeOf232
 v50:=zeroValue232
 t53:=underlying54
 a53:=isAgg54
 z53:=sizeOf54
 v53:=zeroValue54
 t55:=underlying53
 a55:=isAgg53
 z55:=sizeOf53
 v55:=zeroValue53
 t66:=underlying391
 a66:=isAgg391
 z66:=sizeOf391
 v66:=zeroValue391
 t70:=underlying395
 a70:=isAgg395
 z70:=sizeOf395
 v70:=zeroValue395
 t76:=underlying397
 a76:=isAgg397
 z76:=sizeOf397
 v76:=zeroValue397
 t77:=underlying238
 a77:=isAgg238
 z77:=sizeOf238
 v77:=zeroValue238}
def laysClone_ren:Go.Shelf.Ren:=⟨λ|41=>314|n=>n,λ|22=>212|23=>316|4=>4|n=>n,λ|n=>n⟩
def laysClone:Go.Proofs.SlLaysE0.n41 prog laysClone_ren:={
 mixed:=by kernel_rfl
 f41:=⟨Tryz.f314.name,by decide,func314.trans (congrArg some (by kernel_rfl))⟩
 t4:=underlying4
 a4:=isAgg4
 z4:=sizeOf4
 v4:=zeroValue4
 t22:=underlying212
 a22:=isAgg212
 z22:=sizeOf212
 v22:=zeroValue212}
end Go.Proofs
