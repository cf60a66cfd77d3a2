/- Lemmas for a statement on the tops; conditions: as each says. -/
import Derived.Below
import Derived.Laws.OwnMore
import Derived.Deep.AppendLies
import Derived.Deep.Draws
import Derived.Lib.Hide
import Derived.WalkKit
import Derived.Lib.RuneBytes
import Derived.Lib.DecodeN
import Derived.Shelf.Unicode.ValidAny
import Derived.Shelf.Spec.TrailingZeros
import Derived.Shelf.Strings.Builder1
import Derived.Shelf.Strings.Builder2
import Derived.Shelf.Strings.OnBuilder
import Derived.Shelf.Strings.Trim
import Derived.Shelf.Small.Utf8
import Derived.Shelf.Small.Bits
import Derived.Shelf.Small.Strs
import Derived.Shelf.Small.Wraps
import Derived.Shelf.Strings.BuilderF
import Derived.Shelf.Strings.BuilderK
import Derived.Shelf.Utf8.AppendRune
import Derived.Shelf.Utf8.AppendRunePlain
import Derived.Shelf.Utf8.RuneCount
import Derived.Shelf.Strings.Builder2Cap
import Derived.Shelf.Strconv.Itoa0
import Derived.Shelf.Strings.Search1
import Derived.Shelf.Strings.Search2
import Derived.Shelf.Strings.Search3
import Derived.Shelf.Strings.Count
import Derived.Shelf.LaysM
import Derived.Shelf.Strings.Shaped
import Derived.Shelf.Strings.LastIndex
import Derived.Shelf.Strings.LastIndexAll
import Derived.Shelf.Strings.Prefix
import Derived.Shelf.Strings.Split
import Derived.Shelf.Strings.SplitShaped
import Derived.Shelf.Unicode.Decode
import Derived.Shelf.Strings.Runes
import Derived.Shelf.Strings.RuneCount
import Derived.Shelf.Strings.IndexAny
import Derived.Shelf.Strings.AsciiSet
import Derived.Shelf.Strings.IndexAnyAll
import Derived.Shelf.Strings.Explode
import Derived.Shelf.Bits.Mul64
import Derived.Shelf.Strings.Repeat
import Derived.Shelf.Unicode.DecodeSlow
import Derived.Shelf.Unicode.DecodeAny
import Derived.Shelf.Unicode.DecodeLast
import Derived.Shelf.Strings.BuilderCap
import Derived.Ground.Names2Prog
import Derived.Shelf.Slices.SearchI
import Derived.Test.YtjilfbhkdjanhaaGreatDoorProg
import Derived.Lib.IndexBytes
import Derived.Test.YtjilfbhkdjanhaaGreatDoorM0
set_option linter.all false
set_option maxRecDepth 100000
set_option maxHeartbeats 200000
open Go.Proofs.Tryz
namespace Go.Proofs.YtjilfbhkdjanhaaGreatDoor
open Go Go.RowKit
def Zbm(a:Addr)(n:Nat):(a.add n).block=a.block:=by unfold Addr.add;split<;>rfl
def Reads(w:World)(B size:Nat)(A:Option Addr)(n:Nat)(xs:List Value):Prop:=
 xs.length=n*size/\(0<n->∃q,A=some q/\q.block<B/\∀j u,xs[j]?=some u->w.cell? (q.add j)=some u)
section
variable {w w':World} {B B' size n:Nat} {A:Option Addr} {xs:List Value}
theorem Reads.none_:Reads w B size A 0 []:=⟨by simp,λh=>absurd h (by omega)⟩
theorem Reads.at_{k:Nat}(h:Reads w B 1 A n xs)(C:k<n):∃j u,A=some j/\j.block<B/\xs[k]?=some u/\w.cell? (j.add k)=some u:=by
 obtain⟨j,e,hb,y⟩:=h.2 (by omega);have q:k<xs.length:=by have:=h.1;omega
 exact⟨j,xs[k],e,hb,List.getElem?_eq_getElem q,y k _ (List.getElem?_eq_getElem q)⟩
theorem Reads.keep(h:Reads w B size A n xs)(y:∀p:Addr,p.block<B->w'.cell? p=w.cell? p):Reads w' B size A n xs:=
 ⟨h.1,λhn=>by
  obtain⟨D,e,hb,C⟩:=h.2 hn;exact⟨D,e,hb,λj u q=>(y _ (by rw[Zbm];exact hb)).trans (C j u q)⟩⟩
theorem Reads.more(h:Reads w B size A n xs)(hB:B<=B'):Reads w B' size A n xs:=
 ⟨h.1,λhn=>by
  obtain⟨q,e,hb,j⟩:=h.2 hn;exact⟨q,e,by omega,j⟩⟩
theorem Reads.below(h:Reads w B size A n xs)(hb:Below B w w'):Reads w' B size A n xs:=h.keep λ_ j=>hb.cell j
theorem Reads.of_own{base:Nat}{e:TypeId}{v:Value}(h:w.ownsRow base e size v n xs):∃A c,v=.slice A n c/\n<=c/\Reads w w.heap.size size A n xs:=by
 rcases h.2 with⟨rfl,rfl⟩|⟨g,cap,cur,rfl,hb,y,q,D,C,j⟩
 ·have u:xs=[]:=List.eq_nil_of_length_eq_zero (by simpa using h.1);subst u;exact⟨none,0,rfl,Nat.le_refl _,.none_⟩
 ·refine⟨_,_,rfl,q,h.1,λ_=>⟨_,rfl,?_,h.cells (g:=g) rfl⟩⟩;exact(Array.getElem?_eq_some_iff.1 y).1
end
def Zaz(w:World)(B:Nat)(k:IntKind)(A:Option Addr)(zs:List Int):Prop:=Reads w B 1 A zs.length (zs.map (Value.int k))
section
variable {w w':World} {B:Nat} {k:IntKind} {A:Option Addr} {zs:List Int}
theorem Zaz.below(h:Zaz w B k A zs)(hb:Below B w w'):Zaz w' B k A zs:=Reads.below h hb
theorem Zaz.at_{i:Nat}(h:Zaz w B k A zs)(q:i<zs.length):∃j,A=some j/\j.block<B/\w.cell? (j.add i)=some (.int k (zs.getD i 0)):=by
 obtain⟨j,u,e,hb,y,C⟩:=Reads.at_ h q;refine⟨j,e,hb,?_⟩;rw[C];have:(zs.map (Value.int k))[i]?=some (.int k (zs.getD i 0)):=by simp[List.getD,q]
 rw[<-y,this]
theorem Zaz.of_own{base:Nat}{e:TypeId}{v:Value}{n:Nat}(h:w.ownsRow base e 1 v n (zs.map (Value.int k))):∃A c,v=.slice A zs.length c/\zs.length<=c/\n=zs.length/\Zaz w w.heap.size k A zs:=by
 have hn:n=zs.length:=by simpa using h.1.symm
 subst hn;obtain⟨A,c,j,u,q⟩:=Reads.of_own h;exact⟨A,c,j,u,rfl,q⟩
end
def ZcQ{a b:Bool}(h:a=b):Ending.returned (.bool a)=.returned (.bool b):=by rw[h]
def ZaH{k:IntKind}{a b:Int}(h:a=b):Ending.returned (.int k a)=.returned (.int k b):=by rw[h]
def Zcu{W j:World}(hb:Below W.heap.size W j):(∀b o,b<W.heap.size->j.cell? ⟨b,o,none⟩=W.cell? ⟨b,o,none⟩)/\(∀b o,b<W.heap.size->j.frozen? ⟨b,o,none⟩=W.frozen? ⟨b,o,none⟩):=
 ⟨λb o h=>hb.cell (p:=⟨b,o,none⟩) h,λb o h=>hb.frozen (p:=⟨b,o,none⟩) h⟩
def below_drewN{B:Nat}{a w:World}(h:Below B a w)(n:Nat):Below B a (w.drewN n):=⟨h.os,h.tape,h.output,h.size,h.block⟩
def Zad{B base:Nat}{e:TypeId}{size n:Nat}{v:Value}{xs:List Value}{a w w':World}(h:Below B a w)(j:w.ownsRow base e size v n xs)(u:w.grownBy w' v.ownBlock)(hB:B<=w.heap.size)(hb:B<=base):Below B a w':=
 h.grown u hB λk q=>by have:=(j.lt k q).1;omega
def Ze{w j:World}{o:Obj}(h:Below (w.alloc o).heap.size (w.alloc o) j):Below w.heap.size w j:=
 ((Below.refl _ _).alloc NL _).trans (h.mono (by simp))
def ZiD{w j:World}{o q:Obj}(h:Below ((w.alloc o).alloc q).heap.size ((w.alloc o).alloc q) j):Below w.heap.size w j:=Ze (Ze h)
def ZB{w j:World}{base:Nat}{e:TypeId}{size:Nat}{v:Value}{n:Nat}{xs:List Value}(h:w.ownsRow base e size v n xs)(hb:Below w.heap.size w j):j.ownsRow base e size v n xs:=
 h.kept (row:=none) ⟨hb.os,hb.tape,hb.output,hb.size,λk q _=>hb.block k q⟩ (by cases v.ownBlock<;>simp)
def ZY{w j:World}{o:Obj}(h:Below (w.alloc o).heap.size (w.alloc o) j):w.heap.size+1<=j.heap.size:=by
 have:=h.size;simpa using this
def Za6{w wr:World}{T:TypeId}{a b:Value}(hb:Below (w.heap.size+1) (w.alloc (.cells #[a,b] T)) wr):
 wr.cell? ⟨w.heap.size,0,none⟩=some a/\wr.cell? ⟨w.heap.size,1,none⟩=some b/\wr.frozen? ⟨w.heap.size,0,none⟩=false/\wr.frozen? ⟨w.heap.size,1,none⟩=false/\w.heap.size<wr.heap.size:=by
 have q:=hb.size;simp only[World.size_alloc] at q;have j:w.heap.size<w.heap.size+1:=Nat.lt_succ_self _;have e:=heap_alloc_new w (.cells #[a,b] T);refine⟨?_,?_,?_,?_,by omega⟩
 ·rw[hb.cell (p:=⟨w.heap.size,0,none⟩) j,cell_of_row _ w.heap.size 0 _ T (0,0) e];rfl
 ·rw[hb.cell (p:=⟨w.heap.size,1,none⟩) j,cell_of_row _ w.heap.size 1 _ T (0,0) e];rfl
 ·rw[hb.frozen (p:=⟨w.heap.size,0,none⟩) j,frozen_of_row _ w.heap.size 0 _ T e]
 ·rw[hb.frozen (p:=⟨w.heap.size,1,none⟩) j,frozen_of_row _ w.heap.size 1 _ T e]
section
variable {P:Program}
theorem Zmk(src dst e:TypeId)(hs:P.underlying src=some (.slice e))(he:P.underlying e=some (.int .u8))(hd:P.underlying dst=some .string)(w:World){B:Nat}{A:Option Addr}{zs:List Int}(h:Zaz w B .u8 A zs)(c:Nat):
 (convert src dst (.slice A zs.length c)).run P w=.ok (.string (strOfNums zs)) w:=by
 by_cases h0:0<zs.length
 ·obtain⟨j,rfl,_,y⟩:=h.2 h0;have q:(loadCells j zs.length).run P w=.ok (zs.map (Value.int .u8)).toArray w:=by
   have:=run_loadCells_list (P:=P) w j (zs.map (Value.int .u8)) y;simpa using this
  rw[run_convert_bytes_string w src dst e _ _ c hs he hd,run_bytesToString w _ _ c zs q,foldl_push_bytes];simp[strOfNums,ByteArray.empty,ByteArray.emptyWithCapacity];rfl
 ·have u:zs=[]:=List.eq_nil_of_length_eq_zero (by omega);subst u;rw[run_convert_bytes_string w src dst e _ _ c hs he hd];cases A with
  |none=>simp[Conv.bytesToString,strOfNums];rfl
  |some j=>
   have q:(loadCells j 0).run P w=.ok ([].map (Value.int .u8)).toArray w:=run_loadCells_list (P:=P) w j [] (by simp);rw[show(([]:List Int).length)=0 from rfl,run_bytesToString w j 0 c [] q];simp[strOfNums,ByteArray.empty,ByteArray.emptyWithCapacity];rfl
theorem Zep(src dst e:TypeId)(hs:P.underlying src=some (.slice e))(he:P.underlying e=some (.int .u8))(hd:P.underlying dst=some .string)(w:World){base:Nat}{v:Value}{n:Nat}{zs:List Int}(h:w.ownsRow base e 1 v n (zs.map (Value.int .u8))):
 (convert src dst v).run P w=.ok (.string (strOfNums zs)) w:=by
 obtain⟨A,c,rfl,_,_,hn⟩:=Zaz.of_own h;exact Zmk src dst e hs he hd w hn c
theorem Zu9(w:World)(e:TypeId)(zs:List Int)(k:IntKind):Zaz (w.alloc (.cells (zs.map (Value.int k)).toArray e)) (w.heap.size+1) k (some ⟨w.heap.size,0,none⟩) zs:=by
 refine⟨by simp,λ_=>⟨_,rfl,by simp,λj u y=>?_⟩⟩;have q:(⟨w.heap.size,0,none⟩:Addr).add j=⟨w.heap.size,j,none⟩:=by unfold Addr.add;split<;>simp_all
 rw[q,cell_of_row _ w.heap.size j _ e (0,0) (heap_alloc_new w _)];simpa using y
variable (src dst e:TypeId)(hs:P.underlying src=some (.slice e))(he:P.underlying e=some (.int .u8))(hd:P.underlying dst=some .string)
include hs he hd
end
open Go
def Zm(p:Int):Bool:=decide (0<=p/\p<=1114111/\(p<55296\/57343<p))
def Zar{p:Int}:Zm p=true↔(0<=p/\p<=1114111/\(p<55296\/57343<p)):=by simp[Zm]
def Zd(ps:List Int):List UInt8:=ps.flatMap Lib.encodeRune
def ZA(l:List UInt8):Nat×Nat:=Lib.decodeN l.length (l.getD 0 0).toNat (l.getD 1 0).toNat (l.getD 2 0).toNat (l.getD 3 0).toNat
def ZbR(d:Nat×Nat):Prop:=d.1=65533/\d.2<=1
instance (d:Nat×Nat):Decidable (ZbR d):=inferInstanceAs (Decidable (_/\_))
def Zb0:Zd []=[]:=rfl
def Za9(p:Int)(ps:List Int):Zd (p::ps)=Lib.encodeRune p++Zd ps:=rfl
def Zgy(a b:List Int):Zd (a++b)=Zd a++Zd b:=by simp[Zd]
def Zkg(a:List Int)(p:Int):Zd (a++[p])=Zd a++Lib.encodeRune p:=by simp[Zd]
def Zhn(s:ByteArray)(i:Nat):s.get! i=s.data.toList.getD i 0:=by
 by_cases h:i<s.size
 ·have:s.get! i=s.data[i]'h:=by simp[ByteArray.get!,getElem!_pos,h]
  rw[this];have j:i<s.data.toList.length:=by simpa using h
  simp[List.getD,List.getElem?_eq_getElem j]
 ·have q:s.data.size<=i:=by simpa using h
  have:s.get! i=default:=by
   have e:¬i<s.data.size:=by omega
   simp only[ByteArray.get!,getElem!_def,Array.getElem?_eq_none q]
  rw[this];have j:s.data.toList.length<=i:=by simpa using h
  simp[List.getD,List.getElem?_eq_none j];rfl
def ZiT(s:ByteArray)(i:Nat):Utf8.decode s i=ZA (s.data.toList.drop i):=by
 have u:(s.data.toList.drop i).length=s.size - i:=by simp
 have q:∀j,(s.data.toList.drop i).getD j 0=s.data.toList.getD (i+j) 0:=by
  intro j;simp[List.getD,List.getElem?_drop]
 rw[Lib.decode_at,ZA,u,q 0,q 1,q 2,q 3,Zhn,Zhn,Zhn,Zhn];rfl
def Zb1(n:Int)(h0:0<=n)(j:n<256):(n.toNat.toUInt8).toNat=n.toNat:=by
 have:=h0;simp[Nat.toUInt8,UInt8.toNat_ofNat'];omega
def Ze8{p:Int}(h0:0<=p)(j:p<=127):Lib.encodeRune p=[p.toNat.toUInt8]:=by
 simp[Lib.encodeRune,Lib.encodeRuneZ_one h0 j]
def Zhf{p:Int}(h0:128<=p)(j:p<=2047):Lib.encodeRune p=[(192+p / 64).toNat.toUInt8,(128+p % 64).toNat.toUInt8]:=by
 simp[Lib.encodeRune,Lib.encodeRuneZ_two h0 j]
def Zhe{p:Int}(h:(2048<=p/\p<55296)\/(57343<p/\p<=65535)):Lib.encodeRune p=[(224+p / 4096).toNat.toUInt8,(128+p / 64 % 64).toNat.toUInt8,(128+p % 64).toNat.toUInt8]:=by
 simp[Lib.encodeRune,Lib.encodeRuneZ_three h]
def Zhd{p:Int}(h0:65536<=p)(j:p<=1114111):Lib.encodeRune p=[(240+p / 262144).toNat.toUInt8,(128+p / 4096 % 64).toNat.toUInt8,(128+p / 64 % 64).toNat.toUInt8,(128+p % 64).toNat.toUInt8]:=by
 simp[Lib.encodeRune,Lib.encodeRuneZ_four h0 j]
def ZcM(p:Int):1<=(Lib.encodeRune p).length/\(Lib.encodeRune p).length<=4:=by
 have:=Lib.encodeRuneZ_length p;simpa[Lib.encodeRune] using this
def ZiV(p:Int):Lib.encodeRune p≠[]:=by
 intro h;have j:=(ZcM p).1;rw[h] at j;simp at j
def ZmW{p:Int}(h:Zm p=true):(0<=p/\p<=127)\/(128<=p/\p<=2047)\/((2048<=p/\p<55296)\/(57343<p/\p<=65535))\/(65536<=p/\p<=1114111):=by
 rw[Zar] at h;omega
def Ze4{p:Int}(h:Zm p=true)(t:List UInt8):ZA (Lib.encodeRune p++t)=(p.toNat,(Lib.encodeRune p).length):=by
 rcases ZmW h with⟨h0,j⟩|⟨h0,j⟩|q|⟨h0,j⟩
 ·rw[Ze8 h0 j];simp only[ZA,List.cons_append,List.nil_append,List.getD_cons_zero,Zb1 p h0 (by omega),List.length_cons,List.length_nil];unfold Lib.decodeN;rw[if_pos (by omega)]
 ·rw[Zhf h0 j];simp only[ZA,List.cons_append,List.nil_append,List.getD_cons_zero,List.getD_cons_succ,Zb1 (192+p / 64) (by omega) (by omega),Zb1 (128+p % 64) (by omega) (by omega),List.length_cons,List.length_nil];unfold Lib.decodeN;rw[if_neg (by omega),if_pos (by omega),if_pos (by omega)];exact Prod.ext (by simp only;omega) rfl
 ·rw[Zhe q];simp only[ZA,List.cons_append,List.nil_append,List.getD_cons_zero,List.getD_cons_succ,Zb1 (224+p / 4096) (by omega) (by omega),Zb1 (128+p / 64 % 64) (by omega) (by omega),Zb1 (128+p % 64) (by omega) (by omega),List.length_cons,List.length_nil];unfold Lib.decodeN;rw[if_neg (by omega),if_neg (by omega),if_pos (by omega),if_pos (by omega)];exact Prod.ext (by simp only;omega) rfl
 ·rw[Zhd h0 j];simp only[ZA,List.cons_append,List.nil_append,List.getD_cons_zero,List.getD_cons_succ,Zb1 (240+p / 262144) (by omega) (by omega),Zb1 (128+p / 4096 % 64) (by omega) (by omega),Zb1 (128+p / 64 % 64) (by omega) (by omega),Zb1 (128+p % 64) (by omega) (by omega),List.length_cons,List.length_nil];unfold Lib.decodeN;rw[if_neg (by omega),if_neg (by omega),if_neg (by omega),if_pos (by omega),if_pos (by omega)];exact Prod.ext (by simp only;omega) rfl
def Zjw{p:Int}(h:Zm p=true)(t:List UInt8):¬ZbR (ZA (Lib.encodeRune p++t)):=by
 rw[Ze4 h];rintro⟨u,q⟩;have j:p=65533:=by
  rw[Zar] at h;simp only at u;omega
 subst j
 revert q
 decide
def ZbN{b:UInt8}{n:Int}(h:n=(b.toNat:Int)):n.toNat.toUInt8=b:=by
 subst h;simp[Nat.toUInt8]
def Zts{l:List UInt8}(O:l≠[])(he:¬ZbR (ZA l)):∃t,l=Lib.encodeRune ((ZA l).1:Int)++t/\Zm ((ZA l).1:Int)=true/\(Lib.encodeRune ((ZA l).1:Int)).length=(ZA l).2:=by
 match l,O with
 |b0::r,_=>
  have V:=b0.toNat_lt
  revert he
  simp only[ZA,List.getD_cons_zero,List.getD_cons_succ,List.length_cons];unfold Lib.decodeN;by_cases N:b0.toNat<128
  ·rw[if_pos N];intro _;refine⟨r,?_,by rw[Zar];simp only;omega,by rw[Ze8 (by simp only;omega) (by simp only;omega)];rfl⟩;rw[Ze8 (by simp only;omega) (by simp only;omega)];simp only[List.cons_append,List.nil_append,List.cons.injEq,and_true];exact(ZbN rfl).symm
  rw[if_neg N];have u:∀n,(n<r.length+1)=(n<=r.length):=λn=>propext Nat.lt_succ_iff;simp only[u];by_cases D:b0.toNat / 32=6/\1<=r.length/\(r.getD 0 0).toNat / 64=2
  ·rw[if_pos D];obtain⟨L,d1,d2⟩:=D
   match r,d1,d2 with
   |b1::r,_,d2=>
    have J:=b1.toNat_lt;simp only[List.getD_cons_zero] at d2⊢;split
    ·rename_i e
     intro _;have j:(128:Int)<=((b0.toNat % 32*64+b1.toNat % 64:Nat):Int)/\((b0.toNat % 32*64+b1.toNat % 64:Nat):Int)<=2047:=by omega
     refine⟨r,?_,by rw[Zar];simp only;omega,by rw[Zhf j.1 j.2];rfl⟩;rw[Zhf j.1 j.2];simp only[List.cons_append,List.nil_append,List.cons.injEq,and_true];exact⟨(ZbN (by omega)).symm,(ZbN (by omega)).symm⟩
    ·intro he;exact absurd ⟨rfl,Nat.le_refl 1⟩ he
  rw[if_neg D];by_cases c2:b0.toNat / 16=14/\(1<=r.length/\(r.getD 0 0).toNat / 64=2)/\(2<=r.length/\(r.getD 1 0).toNat / 64=2)
  ·rw[if_pos c2];obtain⟨L,⟨_,d2⟩,d3,d4⟩:=c2
   match r,d3,d2,d4 with
   |b1::q::r,_,d2,d4=>
    have J:=b1.toNat_lt;have k2:=q.toNat_lt;simp only[List.getD_cons_zero,List.getD_cons_succ] at d2 d4⊢;split
    ·rename_i e
     intro _;have j:(2048<=((b0.toNat % 16*4096+b1.toNat % 64*64+q.toNat % 64:Nat):Int)/\((b0.toNat % 16*4096+b1.toNat % 64*64+q.toNat % 64:Nat):Int)<55296)\/(57343<((b0.toNat % 16*4096+b1.toNat % 64*64+q.toNat % 64:Nat):Int)/\((b0.toNat % 16*4096+b1.toNat % 64*64+q.toNat % 64:Nat):Int)<=65535):=by omega
     refine⟨r,?_,by rw[Zar];simp only;omega,by rw[Zhe j];rfl⟩;rw[Zhe j];simp only[List.cons_append,List.nil_append,List.cons.injEq,and_true];exact⟨(ZbN (by omega)).symm,(ZbN (by omega)).symm,(ZbN (by omega)).symm⟩
    ·intro he;exact absurd ⟨rfl,Nat.le_refl 1⟩ he
  rw[if_neg c2];by_cases C:b0.toNat / 8=30/\(1<=r.length/\(r.getD 0 0).toNat / 64=2)/\(2<=r.length/\(r.getD 1 0).toNat / 64=2)/\(3<=r.length/\(r.getD 2 0).toNat / 64=2)
  ·rw[if_pos C];obtain⟨L,⟨_,d2⟩,⟨_,d4⟩,d5,y⟩:=C
   match r,d5,d2,d4,y with
   |b1::q::I::r,_,d2,d4,y=>
    have J:=b1.toNat_lt;have k2:=q.toNat_lt;have U:=I.toNat_lt;simp only[List.getD_cons_zero,List.getD_cons_succ] at d2 d4 y⊢;split
    ·rename_i e
     intro _;have j:(65536:Int)<=((b0.toNat % 8*262144+b1.toNat % 64*4096+q.toNat % 64*64+I.toNat % 64:Nat):Int)/\((b0.toNat % 8*262144+b1.toNat % 64*4096+q.toNat % 64*64+I.toNat % 64:Nat):Int)<=1114111:=by omega
     refine⟨r,?_,by rw[Zar];simp only;omega,by rw[Zhd j.1 j.2];rfl⟩;rw[Zhd j.1 j.2];simp only[List.cons_append,List.nil_append,List.cons.injEq,and_true];exact⟨(ZbN (by omega)).symm,(ZbN (by omega)).symm,(ZbN (by omega)).symm,(ZbN (by omega)).symm⟩
    ·intro he;exact absurd ⟨rfl,Nat.le_refl 1⟩ he
  rw[if_neg C];intro he;exact absurd ⟨rfl,Nat.le_refl 1⟩ he
def Good(s:ByteArray)(ps:List Int):Prop:=s.data.toList=Zd ps/\∀p∈ps,Zm p=true
def ZbP(s:ByteArray)(n:Nat):Prop:=∃ps r,s.data.toList=Zd ps++r/\(∀p∈ps,Zm p=true)/\n=(Zd ps).length/\r≠[]/\ZbR (ZA r)
def Zpd:∀n (l:List UInt8),l.length<=n->∃ps r,l=Zd ps++r/\(∀p∈ps,Zm p=true)/\(r=[]\/ZbR (ZA r))
 |0,l,h=>⟨[],[],by simpa[Zb0] using h,by simp,.inl rfl⟩
 |n+1,l,h=>by
  by_cases h0:l=[]
  ·exact⟨[],[],by simpa[Zb0] using h0,by simp,.inl rfl⟩
  by_cases he:ZbR (ZA l)
  ·exact⟨[],l,by simp[Zb0],by simp,.inr he⟩
  obtain⟨t,y,hs,_⟩:=Zts h0 he;have q:t.length<=n:=by
   have u:=congrArg List.length y;rw[List.length_append] at u;have:=(ZcM ((ZA l).1:Int)).1;omega
  obtain⟨ps,r,u,D,C⟩:=Zpd n t q;refine⟨((ZA l).1:Int)::ps,r,?_,?_,C⟩
  ·rw[Za9,List.append_assoc,<-u];exact y
  ·intro p j;rcases List.mem_cons.1 j with rfl|j
   ·exact hs
   ·exact D p j
def Zuh(s:ByteArray):(∃ps,Good s ps)\/∃n,ZbP s n:=by
 obtain⟨ps,r,u,q,j⟩:=Zpd _ s.data.toList NL;rcases j with rfl|j
 ·exact .inl ⟨ps,by simpa using u,q⟩
 ·by_cases y:r=[]
  ·subst y;exact .inl ⟨ps,by simpa using u,q⟩
  ·exact .inr ⟨_,ps,r,u,q,rfl,y,j⟩
def Zm5{ps:List Int}(h:∀p∈ps,Zm p=true):Good ⟨(Zd ps).toArray⟩ ps:=⟨by simp,h⟩
def Good.size{s:ByteArray}{ps:List Int}(h:Good s ps):s.size=(Zd ps).length:=by
 rw[<-h.1];simp
def Zbp(ps:List Int):ps.length<=(Zd ps).length/\(Zd ps).length<=4*ps.length:=by
 induction ps with
 |nil=>simp[Zb0]
 |cons p ps j=>
  have:=ZcM p;rw[Za9,List.length_append,List.length_cons];omega
def Good.len{s:ByteArray}{ps:List Int}(h:Good s ps):ps.length<=s.size:=by
 rw[h.size];exact(Zbp ps).1
def ZbP.lt{s:ByteArray}{n:Nat}(h:ZbP s n):n<s.size:=by
 obtain⟨ps,r,q,_,u,j,_⟩:=h;have:s.size=(Zd ps).length+r.length:=by rw[<-List.length_append,<-q];simp
 have:0<r.length:=List.length_pos_iff.2 j;omega
end Go.Proofs.YtjilfbhkdjanhaaGreatDoor
namespace Go.Proofs
open Go.Shelf
open Go.RowKit in
def lays156_ren:Go.Shelf.Ren:=⟨λ|156=>67|165=>62|166=>63|169=>65|240=>109|241=>110|276=>173|277=>174|n=>n,λ|31=>89|9=>9|3=>3|4=>4|0=>0|20=>20|72=>122|76=>126|70=>120|37=>110|75=>125|127=>179|164=>228|5=>5|80=>86|n=>n,λ|n=>n⟩
def lays156:Go.Proofs.Lays.n156 prog lays156_ren:={
 mixed:=by kernel_rfl
 f156:=func67.trans (congrArg some (by kernel_rfl))
 f165:=func62.trans (congrArg some (by kernel_rfl))
 f166:=func63.trans (congrArg some (by kernel_rfl))
 f169:=func65.trans (congrArg some (by kernel_rfl))
 f240:=func109.trans (congrArg some (by kernel_rfl))
 f241:=func110.trans (congrArg some (by kernel_rfl))
 f276:=func173.trans (congrArg some (by kernel_rfl))
 f277:=func174.trans (congrArg some (by kernel_rfl))
 t0:=underlying0
 a0:=isAgg0
 z0:=sizeOf0
 v0:=zeroValue0
 t3:=underlying3
 a3:=isAgg3
 z3:=sizeOf3
 v3:=zeroValue3
 t4:=underlying4
 a4:=isAgg4
 z4:=sizeOf4
 v4:=zeroValue4
 t9:=underlying9
 a9:=isAgg9
 z9:=sizeOf9
 v9:=zeroValue9
 t20:=underlying20
 a20:=isAgg20
 z20:=sizeOf20
 v20:=zeroValue20
 t31:=underlying89
 a31:=isAgg89
 z31:=sizeOf89
 v31:=zeroValue89
 t37:=underlying110
 a37:=isAgg110
 z37:=sizeOf110
 v37:=zeroValue110
 t70:=underlying120
 a70:=isAgg120
 z70:=sizeOf120
 v70:=zeroValue120
 t72:=underlying122
 a72:=isAgg122
 z72:=sizeOf122
 v72:=zeroValue122
 t75:=underlying125
 a75:=isAgg125
 z75:=sizeOf125
 v75:=zeroValue125
 t76:=underlying126
 a76:=isAgg126
 z76:=sizeOf126
 v76:=zeroValue126
 t127:=underlying179
 a127:=isAgg179
 z127:=sizeOf179
 v127:=zeroValue179
 t164:=underlying228
 a164:=isAgg228
 z164:=sizeOf228
 v164:=zeroValue228}
def Builder_Extra_156:Builder.Extra prog lays156_ren:={
 sizeBuilder:=by kernel_rfl
 liesBuilder:=by kernel_rfl
 t5:=underlying5
 a5:=isAgg5
 z5:=sizeOf5
 v5:=zeroValue5
 infoByte:=by kernel_rfl
 cellsByte:=by kernel_rfl
 sizeByte:=by kernel_rfl
 neB5:=by decide}
open Go.RowKit in
def strings_Join_none(a:Option Addr)(c:Nat)(j:ByteArray)(w:World):
 Calls prog 67 #[.slice a 0 c,.string j] w λe w'=>e=.returned (.string ⟨#[]⟩)/\w'=w:=Any.strings_Join_none lays156 Builder_Extra_156 a c j w
open Go.RowKit in
def strings_Join(D o c:Nat)(xs:List ByteArray)(q:ByteArray)(w:World)(u:∀(j:Nat) x,xs[j]?=some x->w.cell? ⟨D,o+j,none⟩=some (.string x))(I:D<w.heap.size)(J:xs.length<=140737488355328)(C:xs.length<=c)(y:(Lib.join (xs.map (·.data.toList)) q.data.toList).length<=140737488355328):
 Calls prog 67 #[.slice (some ⟨D,o,none⟩) xs.length c,.string q] w λe w'=>e=.returned (.string ⟨(Lib.join (xs.map (·.data.toList)) q.data.toList).toArray⟩)/\Below w.heap.size w w':=Any.strings_Join lays156 Builder_Extra_156 D o c xs q w u I J C y
open Go.RowKit in
def lays118_ren:Go.Shelf.Ren:=⟨λ|118=>296|n=>n,λ|21=>21|3=>3|4=>4|n=>n,λ|n=>n⟩
def lays118:Go.Proofs.Lays.n118 prog lays118_ren:={
 mixed:=by kernel_rfl
 f118:=func296.trans (congrArg some (by kernel_rfl))
 t3:=underlying3
 a3:=isAgg3
 z3:=sizeOf3
 v3:=zeroValue3
 t4:=underlying4
 a4:=isAgg4
 z4:=sizeOf4
 v4:=zeroValue4
 t21:=underlying21
 a21:=isAgg21
 z21:=sizeOf21
 v21:=zeroValue21}
def utf8_RuneLen(r:Int)(w:World):
 Calls prog 296 #[.int .i32 r] w λe w'=>e=.returned (.int .i64 (Lib.runeLen r))/\w'=w:=Any.utf8_RuneLen lays118 r w
def lays137_ren:Go.Shelf.Ren:=⟨λ|137=>60|217=>106|266=>172|n=>n,λ|9=>9|5=>5|3=>3|n=>n,λ|n=>n⟩
def lays137:Go.Proofs.Lays.n137 prog lays137_ren:={
 mixed:=by kernel_rfl
 f137:=func60.trans (congrArg some (by kernel_rfl))
 f217:=func106.trans (congrArg some (by kernel_rfl))
 f266:=func172.trans (congrArg some (by kernel_rfl))
 t3:=underlying3
 a3:=isAgg3
 z3:=sizeOf3
 v3:=zeroValue3
 t5:=underlying5
 a5:=isAgg5
 z5:=sizeOf5
 v5:=zeroValue5
 t9:=underlying9
 a9:=isAgg9
 z9:=sizeOf9
 v9:=zeroValue9}
open Go.RowKit in
def strings_IndexByte(s:ByteArray)(c:Int)(w:World):
 Calls prog 60 #[.string s,.int .u8 c] w λe w'=>e=.returned (.int .i64 (Lib.indexByte s.data.toList c.toNat.toUInt8))/\w'=w:=Any.strings_IndexByte lays137 s c w
open Go.RowKit in
def lays122_ren:Go.Shelf.Ren:=⟨λ|122=>349|215=>368|n=>n,λ|3=>3|4=>4|n=>n,λ|n=>n⟩
def lays122:Go.Proofs.Lays.n122 prog lays122_ren:={
 mixed:=by kernel_rfl
 f122:=func349.trans (congrArg some (by kernel_rfl))
 f215:=func368.trans (congrArg some (by kernel_rfl))
 t3:=underlying3
 a3:=isAgg3
 z3:=sizeOf3
 v3:=zeroValue3
 t4:=underlying4
 a4:=isAgg4
 z4:=sizeOf4
 v4:=zeroValue4}
open Go.RowKit in
def Tryz.cmp_Compare_int(x y:Int)(w:World):
 Calls prog 349 #[.int .i64 x,.int .i64 y] w λe w'=>e=.returned (.int .i64 (Lib.compareInt x y))/\w'=w:=Any.cmp_Compare_int lays122 x y w
open Go.RowKit in
def lays242_ren:Go.Shelf.Ren:=⟨λ|242=>190|278=>260|n=>n,λ|37=>110|21=>21|51=>54|4=>4|5=>5|46=>109|n=>n,λ|n=>n⟩
def lays242:Go.Proofs.Lays.n242 prog lays242_ren:={
 mixed:=by kernel_rfl
 f242:=func190.trans (congrArg some (by kernel_rfl))
 f278:=func260.trans (congrArg some (by kernel_rfl))
 t4:=underlying4
 a4:=isAgg4
 z4:=sizeOf4
 v4:=zeroValue4
 t5:=underlying5
 a5:=isAgg5
 z5:=sizeOf5
 v5:=zeroValue5
 t21:=underlying21
 a21:=isAgg21
 z21:=sizeOf21
 v21:=zeroValue21
 t37:=underlying110
 a37:=isAgg110
 z37:=sizeOf110
 v37:=zeroValue110
 t46:=underlying109
 a46:=isAgg109
 z46:=sizeOf109
 v46:=zeroValue109
 t51:=underlying54
 a51:=isAgg54
 z51:=sizeOf54
 v51:=zeroValue54}
open Go.RowKit in
def utf8_AppendRune_plain(B:Nat)(v:Value)(n:Nat)(xs:List Value)(r:Int)(y: -2147483648<=r)(u:r<=2147483647)(w:World)(j:w.ownsRow B 5 1 v n xs)(q:n+4<=140737488355328)(C:B<=w.heap.size):
 Calls prog 190 #[v,.int .i32 r] w λe w'=>∃D,e=.returned D/\w'.ownsRow B 5 1 D (n+(Lib.runeCells r).length) (xs++Lib.runeCells r)/\∃o,(w.alloc o).grownBy w' v.ownBlock:=Any.utf8_AppendRune_plain lays242 (by kernel_rfl) B v n xs r y u w j q C
open Go.RowKit in
open Go.RowKit Go.Lib in
def lays143_ren:Go.Shelf.Ren:=⟨λ|143=>331|219=>355|217=>106|225=>269|224=>268|267=>373|266=>172|314=>387|n=>n,λ|9=>9|3=>3|4=>4|5=>5|46=>109|146=>175|51=>54|n=>n,λ|1=>3|n=>n⟩
def lays143:Go.Proofs.Lays.n143 prog lays143_ren:={
 mixed:=by kernel_rfl
 f143:=func331.trans (congrArg some (by kernel_rfl))
 f217:=func106.trans (congrArg some (by kernel_rfl))
 f219:=func355.trans (congrArg some (by kernel_rfl))
 f224:=func268.trans (congrArg some (by kernel_rfl))
 f225:=func269.trans (congrArg some (by kernel_rfl))
 f266:=func172.trans (congrArg some (by kernel_rfl))
 f267:=func373.trans (congrArg some (by kernel_rfl))
 f314:=func387.trans (congrArg some (by kernel_rfl))
 t3:=underlying3
 a3:=isAgg3
 z3:=sizeOf3
 v3:=zeroValue3
 t4:=underlying4
 a4:=isAgg4
 z4:=sizeOf4
 v4:=zeroValue4
 t5:=underlying5
 a5:=isAgg5
 z5:=sizeOf5
 v5:=zeroValue5
 t9:=underlying9
 a9:=isAgg9
 z9:=sizeOf9
 v9:=zeroValue9
 t46:=underlying109
 a46:=isAgg109
 z46:=sizeOf109
 v46:=zeroValue109
 t51:=underlying54
 a51:=isAgg54
 z51:=sizeOf54
 v51:=zeroValue54
 t146:=underlying175
 a146:=isAgg175
 z146:=sizeOf175
 v146:=zeroValue175
 g1:=by kernel_rfl}
open Go.RowKit Go.Lib in
def strings_Index(s sub:ByteArray)(m:Int)(w:World)(hs:s.size<4294967281)(j:w.cell? ⟨3,0,none⟩=some (.int .i64 m)):
 Calls prog 331 #[.string s,.string sub] w λe w'=>e=.returned (.int .i64 (Lib.index s.data.toList sub.data.toList))/\w'=w:=Any.strings_Index lays143 s sub m w hs j
open Go.RowKit Go.Lib in
def lays138_ren:Go.Shelf.Ren:=⟨λ|138=>372|195=>385|218=>386|143=>331|219=>355|217=>106|225=>269|224=>268|267=>373|266=>172|314=>387|n=>n,λ|9=>9|3=>3|4=>4|5=>5|0=>0|46=>109|146=>175|51=>54|n=>n,λ|1=>3|n=>n⟩
def lays138:Go.Proofs.Lays.n138 prog lays138_ren:={
 mixed:=by kernel_rfl
 f138:=func372.trans (congrArg some (by kernel_rfl))
 f143:=func331.trans (congrArg some (by kernel_rfl))
 f195:=func385.trans (congrArg some (by kernel_rfl))
 f217:=func106.trans (congrArg some (by kernel_rfl))
 f218:=func386.trans (congrArg some (by kernel_rfl))
 f219:=func355.trans (congrArg some (by kernel_rfl))
 f224:=func268.trans (congrArg some (by kernel_rfl))
 f225:=func269.trans (congrArg some (by kernel_rfl))
 f266:=func172.trans (congrArg some (by kernel_rfl))
 f267:=func373.trans (congrArg some (by kernel_rfl))
 f314:=func387.trans (congrArg some (by kernel_rfl))
 t0:=underlying0
 a0:=isAgg0
 z0:=sizeOf0
 v0:=zeroValue0
 t3:=underlying3
 a3:=isAgg3
 z3:=sizeOf3
 v3:=zeroValue3
 t4:=underlying4
 a4:=isAgg4
 z4:=sizeOf4
 v4:=zeroValue4
 t5:=underlying5
 a5:=isAgg5
 z5:=sizeOf5
 v5:=zeroValue5
 t9:=underlying9
 a9:=isAgg9
 z9:=sizeOf9
 v9:=zeroValue9
 t46:=underlying109
 a46:=isAgg109
 z46:=sizeOf109
 v46:=zeroValue109
 t51:=underlying54
 a51:=isAgg54
 z51:=sizeOf54
 v51:=zeroValue54
 t146:=underlying175
 a146:=isAgg175
 z146:=sizeOf175
 v146:=zeroValue175
 g1:=by kernel_rfl}
open Go.RowKit Go.Lib in
def laysM143_ren:Go.Shelf.Ren:=⟨λ|143=>331|219=>355|217=>106|225=>269|224=>268|267=>373|266=>172|314=>387|n=>n,λ|9=>9|3=>3|4=>4|5=>5|46=>109|146=>175|51=>54|n=>n,λ|1=>3|n=>n⟩
def laysM143:Go.Proofs.LaysM.n143 prog laysM143_ren:={
 mixed:=by kernel_rfl
 f143:=func331.trans (congrArg some (by kernel_rfl))
 f217:=func106.trans (congrArg some (by kernel_rfl))
 f219:=func355.trans (congrArg some (by kernel_rfl))
 f224:=func268.trans (congrArg some (by kernel_rfl))
 f225:=func269.trans (congrArg some (by kernel_rfl))
 f266:=func172.trans (congrArg some (by kernel_rfl))
 f267:=func373.trans (congrArg some (by kernel_rfl))
 f314:=func387.trans (congrArg some (by kernel_rfl))
 t3:=underlying3
 a3:=isAgg3
 z3:=sizeOf3
 v3:=zeroValue3
 t4:=underlying4
 a4:=isAgg4
 z4:=sizeOf4
 v4:=zeroValue4
 t5:=underlying5
 a5:=isAgg5
 z5:=sizeOf5
 v5:=zeroValue5
 t9:=underlying9
 a9:=isAgg9
 z9:=sizeOf9
 v9:=zeroValue9
 t46:=underlying109
 a46:=isAgg109
 z46:=sizeOf109
 v46:=zeroValue109
 t51:=underlying54
 a51:=isAgg54
 z51:=sizeOf54
 v51:=zeroValue54
 t146:=underlying175
 a146:=isAgg175
 z146:=sizeOf175
 v146:=zeroValue175
 g1:=by kernel_rfl
 i3:=by kernel_rfl
 i4:=by kernel_rfl
 i5:=by kernel_rfl
 i9:=by kernel_rfl
 i46:=by kernel_rfl
 i51:=by kernel_rfl
 i146:=by kernel_rfl
 m1:=by kernel_rfl
 s1_3:=λw h=>Go.Proofs.cell_of_shapedOpen_int (zero:=#[.int .i64 0]) (t:=3) h (of_decide_eq_true (by kernel_rfl)) (by kernel_rfl) rfl (by kernel_rfl) (by kernel_rfl) underlying3}
open Go.RowKit Go.Lib in
def lays99_ren:Go.Shelf.Ren:=⟨λ|99=>36|206=>68|n=>n,λ|9=>9|4=>4|3=>3|n=>n,λ|n=>n⟩
def lays99:Go.Proofs.Lays.n99 prog lays99_ren:={
 mixed:=by kernel_rfl
 f99:=func36.trans (congrArg some (by kernel_rfl))
 f206:=func68.trans (congrArg some (by kernel_rfl))
 t3:=underlying3
 a3:=isAgg3
 z3:=sizeOf3
 v3:=zeroValue3
 t4:=underlying4
 a4:=isAgg4
 z4:=sizeOf4
 v4:=zeroValue4
 t9:=underlying9
 a9:=isAgg9
 z9:=sizeOf9
 v9:=zeroValue9}
open Go.RowKit Go.Lib in
def strings_HasPrefix(s p:ByteArray)(w:World):
 Calls prog 36 #[.string s,.string p] w λe w'=>e=.returned (.bool (Lib.hasPrefix s.data.toList p.data.toList))/\w'=w:=Any.strings_HasPrefix lays99 s p w
open Go.RowKit Go.Lib in
def strings_Count_any(s j:ByteArray)(m:Int)(w:World)(hs:s.size<4294967281)(q:w.cell? ⟨3,0,none⟩=some (.int .i64 m))(u:1<=j.size):
 Calls prog 372 #[.string s,.string j] w λe w'=>e=.returned (.int .i64 (Lib.countB s j))/\w'=w:=Any.strings_Count_any lays138 s j m w hs q u
open Go.RowKit Go.Lib in
def lays197_ren:Go.Shelf.Ren:=⟨λ|197=>264|260=>309|n=>n,λ|9=>9|21=>21|3=>3|4=>4|5=>5|105=>235|119=>289|0=>0|46=>109|139=>292|138=>291|n=>n,λ|3=>1|4=>2|n=>n⟩
def lays197:Go.Proofs.Lays.n197 prog lays197_ren:={
 mixed:=by kernel_rfl
 f197:=func264.trans (congrArg some (by kernel_rfl))
 f260:=func309.trans (congrArg some (by kernel_rfl))
 t0:=underlying0
 a0:=isAgg0
 z0:=sizeOf0
 v0:=zeroValue0
 t3:=underlying3
 a3:=isAgg3
 z3:=sizeOf3
 v3:=zeroValue3
 t4:=underlying4
 a4:=isAgg4
 z4:=sizeOf4
 v4:=zeroValue4
 t5:=underlying5
 a5:=isAgg5
 z5:=sizeOf5
 v5:=zeroValue5
 t9:=underlying9
 a9:=isAgg9
 z9:=sizeOf9
 v9:=zeroValue9
 t21:=underlying21
 a21:=isAgg21
 z21:=sizeOf21
 v21:=zeroValue21
 t46:=underlying109
 a46:=isAgg109
 z46:=sizeOf109
 v46:=zeroValue109
 t105:=underlying235
 a105:=isAgg235
 z105:=sizeOf235
 v105:=zeroValue235
 t119:=underlying289
 a119:=isAgg289
 z119:=sizeOf289
 t138:=underlying291
 a138:=isAgg291
 z138:=sizeOf291
 v138:=zeroValue291
 t139:=underlying292
 a139:=isAgg292
 z139:=sizeOf292
 v139:=zeroValue292
 g3:=by kernel_rfl
 g4:=by kernel_rfl}
open Go.RowKit Go.Lib in
def lays152_ren:Go.Shelf.Ren:=⟨λ|152=>209|137=>60|119=>267|224=>268|225=>269|217=>106|266=>172|n=>n,λ|9=>9|21=>21|3=>3|4=>4|5=>5|0=>0|46=>109|n=>n,λ|n=>n⟩
def lays152:Go.Proofs.Lays.n152 prog lays152_ren:={
 mixed:=by kernel_rfl
 f119:=func267.trans (congrArg some (by kernel_rfl))
 f137:=func60.trans (congrArg some (by kernel_rfl))
 f152:=func209.trans (congrArg some (by kernel_rfl))
 f217:=func106.trans (congrArg some (by kernel_rfl))
 f224:=func268.trans (congrArg some (by kernel_rfl))
 f225:=func269.trans (congrArg some (by kernel_rfl))
 f266:=func172.trans (congrArg some (by kernel_rfl))
 t0:=underlying0
 a0:=isAgg0
 z0:=sizeOf0
 v0:=zeroValue0
 t3:=underlying3
 a3:=isAgg3
 z3:=sizeOf3
 v3:=zeroValue3
 t4:=underlying4
 a4:=isAgg4
 z4:=sizeOf4
 v4:=zeroValue4
 t5:=underlying5
 a5:=isAgg5
 z5:=sizeOf5
 v5:=zeroValue5
 t9:=underlying9
 a9:=isAgg9
 z9:=sizeOf9
 v9:=zeroValue9
 t21:=underlying21
 a21:=isAgg21
 z21:=sizeOf21
 v21:=zeroValue21
 t46:=underlying109
 a46:=isAgg109
 z46:=sizeOf109
 v46:=zeroValue109}
open Go.RowKit Go.Lib in
def strings_IndexRune_ascii(s:ByteArray)(r:Int)(w:World)(h0:0<=r)(j:r<128):
 Calls prog 209 #[.string s,.int .i32 r] w λe w'=>e=.returned (.int .i64 (Lib.indexByte s.data.toList r.toNat.toUInt8))/\w'=w:=Any.strings_IndexRune_ascii lays152 s r w h0 j
open Go.RowKit Go.Lib in
def lays105_ren:Go.Shelf.Ren:=⟨λ|105=>33|212=>61|99=>36|165=>62|166=>63|170=>64|169=>65|263=>107|264=>108|206=>68|240=>109|241=>110|276=>173|277=>174|n=>n,λ|9=>9|3=>3|4=>4|20=>20|0=>0|46=>109|109=>118|5=>5|72=>122|76=>126|51=>54|146=>175|53=>53|148=>177|70=>120|37=>110|75=>125|127=>179|164=>228|80=>86|n=>n,λ|n=>n⟩
def lays105:Go.Proofs.Lays.n105 prog lays105_ren:={
 mixed:=by kernel_rfl
 f99:=func36.trans (congrArg some (by kernel_rfl))
 f105:=func33.trans (congrArg some (by kernel_rfl))
 f165:=func62.trans (congrArg some (by kernel_rfl))
 f166:=func63.trans (congrArg some (by kernel_rfl))
 f169:=func65.trans (congrArg some (by kernel_rfl))
 f170:=func64.trans (congrArg some (by kernel_rfl))
 f206:=func68.trans (congrArg some (by kernel_rfl))
 f212:=func61.trans (congrArg some (by kernel_rfl))
 f240:=func109.trans (congrArg some (by kernel_rfl))
 f241:=func110.trans (congrArg some (by kernel_rfl))
 f263:=func107.trans (congrArg some (by kernel_rfl))
 f264:=func108.trans (congrArg some (by kernel_rfl))
 f276:=func173.trans (congrArg some (by kernel_rfl))
 f277:=func174.trans (congrArg some (by kernel_rfl))
 t0:=underlying0
 a0:=isAgg0
 z0:=sizeOf0
 v0:=zeroValue0
 t3:=underlying3
 a3:=isAgg3
 z3:=sizeOf3
 v3:=zeroValue3
 t4:=underlying4
 a4:=isAgg4
 z4:=sizeOf4
 v4:=zeroValue4
 t5:=underlying5
 a5:=isAgg5
 z5:=sizeOf5
 v5:=zeroValue5
 t9:=underlying9
 a9:=isAgg9
 z9:=sizeOf9
 v9:=zeroValue9
 t20:=underlying20
 a20:=isAgg20
 z20:=sizeOf20
 v20:=zeroValue20
 t37:=underlying110
 a37:=isAgg110
 z37:=sizeOf110
 v37:=zeroValue110
 t46:=underlying109
 a46:=isAgg109
 z46:=sizeOf109
 v46:=zeroValue109
 t51:=underlying54
 a51:=isAgg54
 z51:=sizeOf54
 v51:=zeroValue54
 t53:=underlying53
 a53:=isAgg53
 z53:=sizeOf53
 v53:=zeroValue53
 t70:=underlying120
 a70:=isAgg120
 z70:=sizeOf120
 v70:=zeroValue120
 t72:=underlying122
 a72:=isAgg122
 z72:=sizeOf122
 v72:=zeroValue122
 t75:=underlying125
 a75:=isAgg125
 z75:=sizeOf125
 v75:=zeroValue125
 t76:=underlying126
 a76:=isAgg126
 z76:=sizeOf126
 v76:=zeroValue126
 t109:=underlying118
 a109:=isAgg118
 z109:=sizeOf118
 v109:=zeroValue118
 t127:=underlying179
 a127:=isAgg179
 z127:=sizeOf179
 v127:=zeroValue179
 t146:=underlying175
 a146:=isAgg175
 z146:=sizeOf175
 v146:=zeroValue175
 t148:=underlying177
 a148:=isAgg177
 z148:=sizeOf177
 v148:=zeroValue177
 t164:=underlying228
 a164:=isAgg228
 z164:=sizeOf228
 v164:=zeroValue228}
def Builder_Extra_105:Builder.Extra prog lays105_ren:={
 sizeBuilder:=by kernel_rfl
 liesBuilder:=by kernel_rfl
 t5:=underlying5
 a5:=isAgg5
 z5:=sizeOf5
 v5:=zeroValue5
 infoByte:=by kernel_rfl
 cellsByte:=by kernel_rfl
 sizeByte:=by kernel_rfl
 neB5:=by decide}
open Go.RowKit Go.Lib in
def strings_Repeat(s:ByteArray)(c:Nat)(w:World)(q:c<=9223372036854775807)(j:s.size*c<=140737488355328):
 Calls prog 33 #[.string s,.int .i64 c] w λe w'=>e=.returned (.string ⟨(Lib.repeatL s.data.toList c).toArray⟩)/\Below w.heap.size w w':=Any.strings_Repeat lays105 Builder_Extra_105 s c w q j
def lays260_ren:Go.Shelf.Ren:=⟨λ|260=>309|n=>n,λ|9=>9|21=>21|3=>3|4=>4|5=>5|119=>289|0=>0|46=>109|139=>292|138=>291|n=>n,λ|3=>1|4=>2|n=>n⟩
def lays260:Go.Proofs.Lays.n260 prog lays260_ren:={
 mixed:=by kernel_rfl
 f260:=func309.trans (congrArg some (by kernel_rfl))
 t0:=underlying0
 a0:=isAgg0
 z0:=sizeOf0
 v0:=zeroValue0
 t3:=underlying3
 a3:=isAgg3
 z3:=sizeOf3
 v3:=zeroValue3
 t4:=underlying4
 a4:=isAgg4
 z4:=sizeOf4
 v4:=zeroValue4
 t5:=underlying5
 a5:=isAgg5
 z5:=sizeOf5
 v5:=zeroValue5
 t9:=underlying9
 a9:=isAgg9
 z9:=sizeOf9
 v9:=zeroValue9
 t21:=underlying21
 a21:=isAgg21
 z21:=sizeOf21
 v21:=zeroValue21
 t46:=underlying109
 a46:=isAgg109
 z46:=sizeOf109
 v46:=zeroValue109
 t119:=underlying289
 a119:=isAgg289
 z119:=sizeOf289
 t138:=underlying291
 a138:=isAgg291
 z138:=sizeOf291
 v138:=zeroValue291
 t139:=underlying292
 a139:=isAgg292
 z139:=sizeOf292
 v139:=zeroValue292
 g3:=by kernel_rfl
 g4:=by kernel_rfl}
open Go.RowKit Go.Lib in
def utf8_DecodeRuneInString(s:ByteArray)(w:World)(hT:Lib.Utf8Tabs 1 2 w):
 Calls prog 264 #[.string s] w λe w'=>e=.returned (.tuple #[.int .i32 (Lib.decodeGo s).1,.int .i64 (Lib.decodeGo s).2])/\Below w.heap.size w w':=Any.utf8_DecodeRuneInString lays197 s w hT
open Go.RowKit Go.Lib in
def laysValid_ren:Go.Shelf.Ren:=⟨λ|196=>168|259=>244|n=>n,λ|9=>9|4=>4|3=>3|5=>5|12=>12|119=>289|0=>0|46=>109|139=>292|138=>291|53=>53|n=>n,λ|3=>1|4=>2|n=>n⟩
def laysValid:Go.Proofs.Lays.n196 prog laysValid_ren:={
 mixed:=by kernel_rfl
 f196:=func168.trans (congrArg some (by kernel_rfl))
 f259:=func244.trans (congrArg some (by kernel_rfl))
 t0:=underlying0
 a0:=isAgg0
 z0:=sizeOf0
 v0:=zeroValue0
 t3:=underlying3
 a3:=isAgg3
 z3:=sizeOf3
 v3:=zeroValue3
 t4:=underlying4
 a4:=isAgg4
 z4:=sizeOf4
 v4:=zeroValue4
 t5:=underlying5
 a5:=isAgg5
 z5:=sizeOf5
 v5:=zeroValue5
 t9:=underlying9
 a9:=isAgg9
 z9:=sizeOf9
 v9:=zeroValue9
 t12:=underlying12
 a12:=isAgg12
 z12:=sizeOf12
 v12:=zeroValue12
 t46:=underlying109
 a46:=isAgg109
 z46:=sizeOf109
 v46:=zeroValue109
 t53:=underlying53
 a53:=isAgg53
 z53:=sizeOf53
 v53:=zeroValue53
 t119:=underlying289
 a119:=isAgg289
 z119:=sizeOf289
 t138:=underlying291
 a138:=isAgg291
 z138:=sizeOf291
 v138:=zeroValue291
 t139:=underlying292
 a139:=isAgg292
 z139:=sizeOf292
 v139:=zeroValue292
 g3:=by kernel_rfl
 g4:=by kernel_rfl}
def lays7n28_ren:Go.Shelf.Ren:=⟨λ|28=>370|n=>n,λ|27=>54|3=>3|4=>4|25=>109|53=>390|0=>0|5=>5|n=>n,λ|0=>4|n=>n⟩
def lays7n28:Go.Proofs.Lays7.n28 prog lays7n28_ren:={
 mixed:=by kernel_rfl
 f28:=func370.trans (congrArg some (by kernel_rfl))
 t0:=underlying0
 a0:=isAgg0
 z0:=sizeOf0
 v0:=zeroValue0
 i0:=by kernel_rfl
 t3:=underlying3
 a3:=isAgg3
 z3:=sizeOf3
 v3:=zeroValue3
 i3:=by kernel_rfl
 t4:=underlying4
 a4:=isAgg4
 z4:=sizeOf4
 v4:=zeroValue4
 i4:=by kernel_rfl
 t5:=underlying5
 a5:=isAgg5
 z5:=sizeOf5
 v5:=zeroValue5
 i5:=by kernel_rfl
 t25:=underlying109
 a25:=isAgg109
 z25:=sizeOf109
 v25:=zeroValue109
 i25:=by kernel_rfl
 t27:=underlying54
 a27:=isAgg54
 z27:=sizeOf54
 v27:=zeroValue54
 i27:=by kernel_rfl
 t53:=underlying390
 a53:=isAgg390
 z53:=sizeOf390
 v53:=zeroValue390
 i53:=by kernel_rfl
 g0:=by kernel_rfl}
end Go.Proofs
namespace Go.Proofs.YtjilfbhkdjanhaaGreatDoor
open Go Go.RowKit
def Pre(s:ByteArray)(ps:List Int)(r:List UInt8):Prop:=s.data.toList=Zd ps++r/\∀p∈ps,Zm p=true
def Run(ps:List Int)(k i:Nat):Prop:=k<=ps.length/\i=(Zd (ps.take k)).length
def Good.pre{s:ByteArray}{ps:List Int}(h:Good s ps):Pre s ps []:=⟨by simpa using h.1,h.2⟩
def ZbP.pre{s:ByteArray}{n:Nat}(h:ZbP s n):∃ps r,Pre s ps r/\n=(Zd ps).length/\r≠[]/\ZbR (ZA r):=by
 obtain⟨ps,r,C,y,u,q,j⟩:=h;exact⟨ps,r,⟨C,y⟩,u,q,j⟩
def Run.zero(ps:List Int):Run ps 0 0:=⟨Nat.zero_le _,rfl⟩
def Zeq{ps:List Int}{k:Nat}(h:k<ps.length):ps.getD k 0∈ps:=by
 rw[List.getD_eq_getElem?_getD,List.getElem?_eq_getElem h];exact List.getElem_mem h
def Zms{ps:List Int}{k:Nat}(h:k<ps.length):ps.drop k=ps.getD k 0::ps.drop (k+1):=by
 rw[List.drop_eq_getElem_cons h,List.getD_eq_getElem?_getD,List.getElem?_eq_getElem h];rfl
def Zd7{ps:List Int}{k:Nat}(h:k<ps.length):ps.take (k+1)=ps.take k++[ps.getD k 0]:=by
 rw[List.take_succ_eq_append_getElem h,List.getD_eq_getElem?_getD,List.getElem?_eq_getElem h];rfl
def Run.drop{s:ByteArray}{ps:List Int}{r:List UInt8}{k i:Nat}(j:Pre s ps r)(h:Run ps k i):s.data.toList.drop i=Zd (ps.drop k)++r:=by
 have e:Zd ps=Zd (ps.take k)++Zd (ps.drop k):=by rw[<-Zgy,List.take_append_drop]
 rw[j.1,e,List.append_assoc,h.2,List.drop_left]
def Run.next{ps:List Int}{k i:Nat}(h:Run ps k i)(j:k<ps.length):Run ps (k+1) (i+(Lib.encodeRune (ps.getD k 0)).length):=
 ⟨j,by rw[Zd7 j,Zgy,List.length_append,<-h.2,Za9,Zb0,List.append_nil]⟩
def Run.head{s:ByteArray}{ps:List Int}{r:List UInt8}{k i:Nat}(j:Pre s ps r)(h:Run ps k i)(u:k<ps.length):
 ∃t,s.data.toList.drop i=Lib.encodeRune (ps.getD k 0)++t/\Zm (ps.getD k 0)=true/\i<s.size/\i+(Lib.encodeRune (ps.getD k 0)).length<=s.size:=by
 have hd:=h.drop j;rw[Zms u,Za9,List.append_assoc] at hd;have q:=congrArg List.length hd;rw[List.length_drop,List.length_append] at q;have y:=(ZcM (ps.getD k 0)).1;have hs:s.data.toList.length=s.size:=by simp
 rw[hs] at q;exact⟨_,hd,j.2 _ (Zeq u),by omega,by omega⟩
def Run.end_{s:ByteArray}{ps:List Int}{r:List UInt8}{i:Nat}(j:Pre s ps r)(h:Run ps ps.length i):i=(Zd ps).length/\s.data.toList.drop i=r/\i+r.length=s.size:=by
 have hd:=h.drop j;rw[List.drop_length,Zb0,List.nil_append] at hd;have q:=h.2;rw[List.take_length] at q;refine⟨q,hd,?_⟩;have u:=congrArg List.length j.1;rw[List.length_append] at u;have hs:s.data.toList.length=s.size:=by simp
 omega
def Run.le{s:ByteArray}{ps:List Int}{r:List UInt8}{k i:Nat}(j:Pre s ps r)(h:Run ps k i):k<=i/\i<=s.size/\k<=ps.length:=by
 have u:=(Zbp (ps.take k)).1;rw[List.length_take,<-h.2] at u;have h0:=h.1;have q:=congrArg List.length j.1;have e:Zd ps=Zd (ps.take k)++Zd (ps.drop k):=by rw[<-Zgy,List.take_append_drop]
 rw[e,List.length_append,List.length_append,<-h.2] at q;have hs:s.data.toList.length=s.size:=by simp
 omega
def ZtQ(s:ByteArray)(i:Nat):(s.extract i s.size).data.toList=s.data.toList.drop i:=Lib.extract_to_end s i
def Zmp(s:ByteArray)(i:Nat)(h:i<s.size):Lib.decodeGo (s.extract i s.size)=ZA (s.data.toList.drop i):=by
 have e:=ZtQ s i;have y:(s.extract i s.size).size=s.size - i:=by
  have j:=congrArg List.length e;have u:(s.extract i s.size).data.toList.length=(s.extract i s.size).size:=by simp
  have q:s.data.toList.length=s.size:=by simp
  rw[u,List.length_drop,q] at j;exact j
 unfold Lib.decodeGo;rw[if_neg (by omega),ZiT,e,List.drop_zero]
def Step(s:ByteArray)(ps:List Int)(k i:Nat)(p:Int)(n:Nat):Prop:=
 (∃t,s.data.toList.drop i=Lib.encodeRune p++t)/\n=(Lib.encodeRune p).length/\p=ps.getD k 0/\Zm p=true
def Run.step{s:ByteArray}{ps:List Int}{r:List UInt8}{k i:Nat}(D:Pre s ps r)(h:Run ps k i)(q:k<ps.length):
 ∃(p:Int) (n:Nat),Step s ps k i p n/\Run ps (k+1) (i+n)/\1<=n/\n<=4/\i+n<=s.size/\0<=p/\p<=1114111/\((p==65533)=false\/(p=65533/\2<=n)):=by
 obtain⟨t,hd,hs,I,j⟩:=h.head D q;have C:=Zar.1 hs;have y:=ZcM (ps.getD k 0);refine⟨_,_,⟨⟨t,hd⟩,rfl,rfl,hs⟩,h.next q,y.1,y.2,j,C.1,C.2.1,?_⟩;by_cases u:ps.getD k 0=65533
 ·right
  rw[u];exact⟨rfl,by decide⟩
 ·left
  simpa using u
def Step.snoc{s:ByteArray}{ps:List Int}{k i n:Nat}{p:Int}(h:Step s ps k i p n)(j:k<ps.length):ps.take (k+1)=ps.take k++[p]:=by
 rw[Zd7 j,h.2.2.1]
