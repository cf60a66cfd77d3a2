/- Lemmas for a statement on the tops; conditions: as each says. -/
import Derived.Below
import Derived.Laws.OwnMore
import Derived.Deep.AppendLies
import Derived.Deep.Draws
import Derived.Lib.Hide
import Derived.WalkKit
import Derived.Lib.RuneBytes
import Derived.Lib.DecodeN
import Derived.Shelf.Unicode.ValidAny
import Derived.Shelf.Spec.TrailingZeros
import Derived.Shelf.Strings.Builder1
import Derived.Shelf.Strings.Builder2
import Derived.Shelf.Strings.OnBuilder
import Derived.Shelf.Strings.Trim
import Derived.Shelf.Small.Utf8
import Derived.Shelf.Small.Bits
import Derived.Shelf.Small.Strs
import Derived.Shelf.Small.Wraps
import Derived.Shelf.Strings.BuilderF
import Derived.Shelf.Strings.BuilderK
import Derived.Shelf.Utf8.AppendRune
import Derived.Shelf.Utf8.AppendRunePlain
import Derived.Shelf.Utf8.RuneCount
import Derived.Shelf.Strings.Builder2Cap
import Derived.Shelf.Strconv.Itoa0
import Derived.Shelf.Strings.Search1
import Derived.Shelf.Strings.Search2
import Derived.Shelf.Strings.Search3
import Derived.Shelf.Strings.Count
import Derived.Shelf.LaysM
import Derived.Shelf.Strings.Shaped
import Derived.Shelf.Strings.LastIndex
import Derived.Shelf.Strings.LastIndexAll
import Derived.Shelf.Strings.Prefix
import Derived.Shelf.Strings.Split
import Derived.Shelf.Strings.SplitShaped
import Derived.Shelf.Unicode.Decode
import Derived.Shelf.Strings.Runes
import Derived.Shelf.Strings.RuneCount
import Derived.Shelf.Strings.IndexAny
import Derived.Shelf.Strings.AsciiSet
import Derived.Shelf.Strings.IndexAnyAll
import Derived.Shelf.Strings.Explode
import Derived.Shelf.Bits.Mul64
import Derived.Shelf.Strings.Repeat
import Derived.Shelf.Unicode.DecodeSlow
import Derived.Shelf.Unicode.DecodeAny
import Derived.Shelf.Unicode.DecodeLast
import Derived.Shelf.Strings.BuilderCap
import Derived.Ground.Names2Prog
import Derived.Shelf.Slices.SearchI
import Derived.Test.YtecandjkbbpooaaGreatDoorProg
set_option linter.unusedVariables false
set_option linter.unusedSimpArgs false
set_option maxRecDepth 100000
set_option maxHeartbeats 200000
namespace Go.Proofs.YtecandjkbbpooaaGreatDoor
open Go Go.RowKit
theorem ZaX (a:Addr)(n:Nat):(a.add n).block=a.block:=by unfold Addr.add;split<;>rfl
def Reads (w:World)(B size:Nat)(A:Option Addr)(n:Nat)(xs:List Value):Prop:=
 xs.length=n*size∧(0<n→∃ad,A=some ad∧ad.block<B∧∀j u,xs[j]? =some u→w.cell? (ad.add j)=some u)
section
variable {w w':World} {B B' size n:Nat} {A:Option Addr} {xs:List Value}
theorem Reads.none_:Reads w B size A 0 []:=⟨by simp,fun h=>absurd h (by omega)⟩
theorem Reads.at_ {k:Nat} (h:Reads w B 1 A n xs)(hk:k<n):∃ad u,A=some ad∧ad.block<B∧xs[k]? =some u∧w.cell? (ad.add k)=some u:=by
 obtain⟨ad,e,hb,hc⟩:=h.2 (by omega);have hl:k<xs.length:=by have:=h.1;omega
 exact⟨ad,xs[k],e,hb,List.getElem?_eq_getElem hl,hc k _ (List.getElem?_eq_getElem hl)⟩
theorem Reads.keep (h:Reads w B size A n xs)(hk:∀p:Addr,p.block<B→w'.cell? p=w.cell? p):Reads w' B size A n xs:=
 ⟨h.1,fun hn=>by
  obtain⟨ad,e,hb,hc⟩:=h.2 hn;exact⟨ad,e,hb,fun j u hu=>(hk _ (by rw [ZaX];exact hb)).trans (hc j u hu)⟩⟩
theorem Reads.more (h:Reads w B size A n xs)(hB:B≤B'):Reads w B' size A n xs:=
 ⟨h.1,fun hn=>by
  obtain⟨ad,e,hb,hc⟩:=h.2 hn;exact⟨ad,e,by omega,hc⟩⟩
theorem Reads.below (h:Reads w B size A n xs)(hb:Below B w w'):Reads w' B size A n xs:=h.keep fun _ hp=>hb.cell hp
theorem Reads.of_own {base:Nat} {e:TypeId} {v:Value} (h:w.ownsRow base e size v n xs):∃A c,v= .slice A n c∧n≤c∧Reads w w.heap.size size A n xs:=by
 rcases h.2 with⟨rfl,rfl⟩|⟨g,cap,cur,rfl,hb,hg,hnc,hcm,hcs,htake⟩
 · have hx:xs=[]:=List.eq_nil_of_length_eq_zero (by simpa using h.1);subst hx;exact⟨none,0,rfl,Nat.le_refl _,.none_⟩
 · refine⟨_,_,rfl,hnc,h.1,fun _=>⟨_,rfl,?_,h.cells (g:=g) rfl⟩⟩;exact(Array.getElem?_eq_some_iff.1 hg).1
end
def ZaP (w:World)(B:Nat)(k:IntKind)(A:Option Addr)(zs:List Int):Prop:=Reads w B 1 A zs.length (zs.map (Value.int k))
section
variable {w w':World} {B:Nat} {k:IntKind} {A:Option Addr} {zs:List Int}
theorem ZaP.below (h:ZaP w B k A zs)(hb:Below B w w'):ZaP w' B k A zs:=Reads.below h hb
theorem ZaP.at_ {i:Nat} (h:ZaP w B k A zs)(hi:i<zs.length):∃ad,A=some ad∧ad.block<B∧w.cell? (ad.add i)=some (.int k (zs.getD i 0)):=by
 obtain⟨ad,u,e,hb,hu,hc⟩:=Reads.at_ h hi;refine⟨ad,e,hb,?_⟩;rw [hc];have:(zs.map (Value.int k))[i]? =some (.int k (zs.getD i 0)):=by simp [List.getD,hi]
 rw [←hu,this]
theorem ZaP.of_own {base:Nat} {e:TypeId} {v:Value} {n:Nat} (h:w.ownsRow base e 1 v n (zs.map (Value.int k))):∃A c,v= .slice A zs.length c∧zs.length≤c∧n=zs.length∧ZaP w w.heap.size k A zs:=by
 have hn:n=zs.length:=by simpa using h.1.symm
 subst hn;obtain⟨A,c,hv,hc,hr⟩:=Reads.of_own h;exact⟨A,c,hv,hc,rfl,hr⟩
end
theorem Zc5 {a b:Bool} (h:a=b):Ending.returned (.bool a)= .returned (.bool b):=by rw [h]
theorem ZbU {k:IntKind} {a b:Int} (h:a=b):Ending.returned (.int k a)= .returned (.int k b):=by rw [h]
theorem Zb2 {W w1:World} (hb:Below W.heap.size W w1):(∀b o,b<W.heap.size→w1.cell? ⟨b,o,none⟩=W.cell? ⟨b,o,none⟩)∧(∀b o,b<W.heap.size→w1.frozen? ⟨b,o,none⟩=W.frozen? ⟨b,o,none⟩):=
 ⟨fun b o h=>hb.cell (p:=⟨b,o,none⟩) h,fun b o h=>hb.frozen (p:=⟨b,o,none⟩) h⟩
theorem below_drewN {B:Nat} {a w:World} (h:Below B a w)(n:Nat):Below B a (w.drewN n):=⟨h.os,h.tape,h.output,h.size,h.block⟩
theorem Zaa {B base:Nat} {e:TypeId} {size n:Nat} {v:Value} {xs:List Value} {a w w':World} (h:Below B a w)(hown:w.ownsRow base e size v n xs)(hg:w.grownBy w' v.ownBlock)(hB:B≤w.heap.size)(hb:B≤base):Below B a w':=
 h.grown hg hB fun k hk=>by have:=(hown.lt k hk).1;omega
theorem Ze {w w1:World} {o:Obj} (h:Below (w.alloc o).heap.size (w.alloc o) w1):Below w.heap.size w w1:=
 ((Below.refl _ _).alloc (Nat.le_refl _) _).trans (h.mono (by simp))
theorem Zeh {w w1:World} {o o':Obj} (h:Below ((w.alloc o).alloc o').heap.size ((w.alloc o).alloc o') w1):Below w.heap.size w w1:=Ze (Ze h)
theorem ZE {w w1:World} {base:Nat} {e:TypeId} {size:Nat} {v:Value} {n:Nat} {xs:List Value} (h:w.ownsRow base e size v n xs)(hb:Below w.heap.size w w1):w1.ownsRow base e size v n xs:=
 h.kept (row:=none) ⟨hb.os,hb.tape,hb.output,hb.size,fun k hk _=>hb.block k hk⟩ (by cases v.ownBlock<;>simp)
theorem Z9 {w w1:World} {o:Obj} (h:Below (w.alloc o).heap.size (w.alloc o) w1):w.heap.size+1≤w1.heap.size:=by
 have:=h.size;simpa using this
theorem Zax {w wr:World} {T:TypeId} {a b:Value} (hb:Below (w.heap.size+1) (w.alloc (.cells #[a,b] T)) wr):
 wr.cell? ⟨w.heap.size,0,none⟩=some a∧wr.cell? ⟨w.heap.size,1,none⟩=some b∧wr.frozen? ⟨w.heap.size,0,none⟩=false∧wr.frozen? ⟨w.heap.size,1,none⟩=false∧w.heap.size<wr.heap.size:=by
 have h1:=hb.size;simp only [World.size_alloc] at h1;have hl:w.heap.size<w.heap.size+1:=Nat.lt_succ_self _;have e:=heap_alloc_new w (.cells #[a,b] T);refine⟨?_,?_,?_,?_,by omega⟩
 · rw [hb.cell (p:=⟨w.heap.size,0,none⟩) hl,cell_of_row _ w.heap.size 0 _ T (0,0) e];rfl
 · rw [hb.cell (p:=⟨w.heap.size,1,none⟩) hl,cell_of_row _ w.heap.size 1 _ T (0,0) e];rfl
 · rw [hb.frozen (p:=⟨w.heap.size,0,none⟩) hl,frozen_of_row _ w.heap.size 0 _ T e]
 · rw [hb.frozen (p:=⟨w.heap.size,1,none⟩) hl,frozen_of_row _ w.heap.size 1 _ T e]
section
variable {P:Program}
theorem ZpY (src dst e:TypeId)(hs:P.underlying src=some (.slice e))(he:P.underlying e=some (.int .u8))(hd:P.underlying dst=some .string)(w:World){B:Nat} {A:Option Addr} {zs:List Int} (h:ZaP w B .u8 A zs)(c:Nat):
 (convert src dst (.slice A zs.length c)).run P w= .ok (.string (strOfNums zs)) w:=by
 by_cases h0:0<zs.length
 · obtain⟨ad,rfl,_,hc⟩:=h.2 h0;have hl:(loadCells ad zs.length).run P w= .ok (zs.map (Value.int .u8)).toArray w:=by
    have:=run_loadCells_list (P:=P) w ad (zs.map (Value.int .u8)) hc;simpa using this
   rw [run_convert_bytes_string w src dst e _ _ c hs he hd,run_bytesToString w _ _ c zs hl,foldl_push_bytes];simp [strOfNums,ByteArray.empty,ByteArray.emptyWithCapacity];rfl
 · have hz:zs=[]:=List.eq_nil_of_length_eq_zero (by omega);subst hz;rw [run_convert_bytes_string w src dst e _ _ c hs he hd];cases A with
   |none=>simp [Conv.bytesToString,strOfNums];rfl
   |some ad=>
    have hl:(loadCells ad 0).run P w= .ok ([].map (Value.int .u8)).toArray w:=run_loadCells_list (P:=P) w ad [] (by simp);rw [show(([]:List Int).length)=0 from rfl,run_bytesToString w ad 0 c [] hl];simp [strOfNums,ByteArray.empty,ByteArray.emptyWithCapacity];rfl
theorem ZdO (src dst e:TypeId)(hs:P.underlying src=some (.slice e))(he:P.underlying e=some (.int .u8))(hd:P.underlying dst=some .string)(w:World){base:Nat} {v:Value} {n:Nat} {zs:List Int} (h:w.ownsRow base e 1 v n (zs.map (Value.int .u8))):
 (convert src dst v).run P w= .ok (.string (strOfNums zs)) w:=by
 obtain⟨A,c,rfl,_,_,hn⟩:=ZaP.of_own h;exact ZpY src dst e hs he hd w hn c
theorem ZrU (w:World)(e:TypeId)(zs:List Int)(k:IntKind):ZaP (w.alloc (.cells (zs.map (Value.int k)).toArray e)) (w.heap.size+1) k (some ⟨w.heap.size,0,none⟩) zs:=by
 refine⟨by simp,fun _=>⟨_,rfl,by simp,fun j u hu=> ?_⟩⟩;have hadd:(⟨w.heap.size,0,none⟩:Addr).add j=⟨w.heap.size,j,none⟩:=by unfold Addr.add;split<;>simp_all
 rw [hadd,cell_of_row _ w.heap.size j _ e (0,0) (heap_alloc_new w _)];simpa using hu
variable (src dst e:TypeId)(hs:P.underlying src=some (.slice e))(he:P.underlying e=some (.int .u8))(hd:P.underlying dst=some .string)
include hs he hd
end
end Go.Proofs.YtecandjkbbpooaaGreatDoor
namespace Go.Proofs.YtecandjkbbpooaaGreatDoor
open Go
def Zv (p:Int):Bool:=decide (0≤p∧p≤1114111∧(p<55296∨57343<p))
theorem ZaN {p:Int}:Zv p=true↔(0≤p∧p≤1114111∧(p<55296∨57343<p)):=by simp [Zv]
def Zc (ps:List Int):List UInt8:=ps.flatMap Lib.encodeRune
def ZA (l:List UInt8):Nat×Nat:=Lib.decodeN l.length (l.getD 0 0).toNat (l.getD 1 0).toNat (l.getD 2 0).toNat (l.getD 3 0).toNat
def ZbC (d:Nat×Nat):Prop:=d.1=65533∧d.2≤1
instance (d:Nat×Nat):Decidable (ZbC d):=inferInstanceAs (Decidable (_∧_))
theorem Zca:Zc []=[]:=rfl
theorem Za2 (p:Int)(ps:List Int):Zc (p::ps)=Lib.encodeRune p++Zc ps:=rfl
theorem ZgI (a b:List Int):Zc (a++b)=Zc a++Zc b:=by simp [Zc]
theorem ZmW (a:List Int)(p:Int):Zc (a++[p])=Zc a++Lib.encodeRune p:=by simp [Zc]
theorem Zgd (s:ByteArray)(i:Nat):s.get! i=s.data.toList.getD i 0:=by
 by_cases h:i<s.size
 · have:s.get! i=s.data[i]'h:=by simp [ByteArray.get!,getElem!_pos,h]
   rw [this];have h2:i<s.data.toList.length:=by simpa using h
   simp [List.getD,List.getElem?_eq_getElem h2]
 · have h3:s.data.size≤i:=by simpa using h
   have:s.get! i=default:=by
    have e:¬i<s.data.size:=by omega
    simp only [ByteArray.get!,getElem!_def,Array.getElem?_eq_none h3]
   rw [this];have h2:s.data.toList.length≤i:=by simpa using h
   simp [List.getD,List.getElem?_eq_none h2];rfl
theorem ZhC (s:ByteArray)(i:Nat):Utf8.decode s i=ZA (s.data.toList.drop i):=by
 have hl:(s.data.toList.drop i).length=s.size - i:=by simp
 have hg:∀j,(s.data.toList.drop i).getD j 0=s.data.toList.getD (i+j) 0:=by
  intro j;simp [List.getD,List.getElem?_drop]
 rw [Lib.decode_at,ZA,hl,hg 0,hg 1,hg 2,hg 3,Zgd,Zgd,Zgd,Zgd];rfl
theorem ZbH (n:Int)(h0:0≤n)(h1:n<256):(n.toNat.toUInt8).toNat=n.toNat:=by
 have:=h0;simp [Nat.toUInt8,UInt8.toNat_ofNat'];omega
theorem Zeq {p:Int} (h0:0≤p)(h1:p≤127):Lib.encodeRune p=[p.toNat.toUInt8]:=by
 simp [Lib.encodeRune,Lib.encodeRuneZ_one h0 h1]
theorem Zf6 {p:Int} (h0:128≤p)(h1:p≤2047):Lib.encodeRune p=[(192+p / 64).toNat.toUInt8,(128+p % 64).toNat.toUInt8]:=by
 simp [Lib.encodeRune,Lib.encodeRuneZ_two h0 h1]
theorem Zf5 {p:Int} (h:(2048≤p∧p<55296)∨(57343<p∧p≤65535)):Lib.encodeRune p=[(224+p / 4096).toNat.toUInt8,(128+p / 64 % 64).toNat.toUInt8,(128+p % 64).toNat.toUInt8]:=by
 simp [Lib.encodeRune,Lib.encodeRuneZ_three h]
theorem Zf4 {p:Int} (h0:65536≤p)(h1:p≤1114111):Lib.encodeRune p=[(240+p / 262144).toNat.toUInt8,(128+p / 4096 % 64).toNat.toUInt8,(128+p / 64 % 64).toNat.toUInt8,(128+p % 64).toNat.toUInt8]:=by
 simp [Lib.encodeRune,Lib.encodeRuneZ_four h0 h1]
theorem ZcS (p:Int):1≤(Lib.encodeRune p).length∧(Lib.encodeRune p).length≤4:=by
 have:=Lib.encodeRuneZ_length p;simpa [Lib.encodeRune] using this
theorem ZhF (p:Int):Lib.encodeRune p≠[]:=by
 intro h;have h1:=(ZcS p).1;rw [h] at h1;simp at h1
theorem ZkZ {p:Int} (h:Zv p=true):(0≤p∧p≤127)∨(128≤p∧p≤2047)∨((2048≤p∧p<55296)∨(57343<p∧p≤65535))∨(65536≤p∧p≤1114111):=by
 rw [ZaN] at h;omega
theorem Zen {p:Int} (h:Zv p=true)(t:List UInt8):ZA (Lib.encodeRune p++t)=(p.toNat,(Lib.encodeRune p).length):=by
 rcases ZkZ h with⟨h0,h1⟩|⟨h0,h1⟩|h3|⟨h0,h1⟩
 · rw [Zeq h0 h1];simp only [ZA,List.cons_append,List.nil_append,List.getD_cons_zero,ZbH p h0 (by omega),List.length_cons,List.length_nil];unfold Lib.decodeN;rw [if_pos (by omega)]
 · rw [Zf6 h0 h1];simp only [ZA,List.cons_append,List.nil_append,List.getD_cons_zero,List.getD_cons_succ,ZbH (192+p / 64) (by omega) (by omega),ZbH (128+p % 64) (by omega) (by omega),List.length_cons,List.length_nil];unfold Lib.decodeN;rw [if_neg (by omega),if_pos (by omega),if_pos (by omega)];exact Prod.ext (by simp only;omega) rfl
 · rw [Zf5 h3];simp only [ZA,List.cons_append,List.nil_append,List.getD_cons_zero,List.getD_cons_succ,ZbH (224+p / 4096) (by omega) (by omega),ZbH (128+p / 64 % 64) (by omega) (by omega),ZbH (128+p % 64) (by omega) (by omega),List.length_cons,List.length_nil];unfold Lib.decodeN;rw [if_neg (by omega),if_neg (by omega),if_pos (by omega),if_pos (by omega)];exact Prod.ext (by simp only;omega) rfl
 · rw [Zf4 h0 h1];simp only [ZA,List.cons_append,List.nil_append,List.getD_cons_zero,List.getD_cons_succ,ZbH (240+p / 262144) (by omega) (by omega),ZbH (128+p / 4096 % 64) (by omega) (by omega),ZbH (128+p / 64 % 64) (by omega) (by omega),ZbH (128+p % 64) (by omega) (by omega),List.length_cons,List.length_nil];unfold Lib.decodeN;rw [if_neg (by omega),if_neg (by omega),if_neg (by omega),if_pos (by omega),if_pos (by omega)];exact Prod.ext (by simp only;omega) rfl
theorem Zh6 {p:Int} (h:Zv p=true)(t:List UInt8):¬ZbC (ZA (Lib.encodeRune p++t)):=by
 rw [Zen h];rintro⟨h1,h2⟩;have hp:p=65533:=by
  rw [ZaN] at h;simp only at h1;omega
 subst hp
 revert h2
 decide
theorem ZbX {b:UInt8} {n:Int} (h:n=(b.toNat:Int)):n.toNat.toUInt8=b:=by
 subst h;simp [Nat.toUInt8]
theorem Zqe {l:List UInt8} (hl:l≠[])(he:¬ZbC (ZA l)):∃t,l=Lib.encodeRune ((ZA l).1:Int)++t∧Zv ((ZA l).1:Int)=true∧(Lib.encodeRune ((ZA l).1:Int)).length=(ZA l).2:=by
 match l,hl with
 |b0::r,_=>
  have k0:=b0.toNat_lt
  revert he
  simp only [ZA,List.getD_cons_zero,List.getD_cons_succ,List.length_cons];unfold Lib.decodeN;by_cases c0:b0.toNat<128
  · rw [if_pos c0];intro _;refine⟨r,?_,by rw [ZaN];simp only;omega,by rw [Zeq (by simp only;omega) (by simp only;omega)];rfl⟩;rw [Zeq (by simp only;omega) (by simp only;omega)];simp only [List.cons_append,List.nil_append,List.cons.injEq,and_true];exact(ZbX rfl).symm
  rw [if_neg c0];have hlen:∀n,(n<r.length+1)=(n≤r.length):=fun n=>propext Nat.lt_succ_iff;simp only [hlen];by_cases c1:b0.toNat / 32=6∧1≤r.length∧(r.getD 0 0).toNat / 64=2
  · rw [if_pos c1];obtain⟨d0,d1,d2⟩:=c1
    match r,d1,d2 with
    |b1::r,_,d2=>
     have k1:=b1.toNat_lt;simp only [List.getD_cons_zero] at d2⊢;split
     · rename_i e
       intro _;have hr:(128:Int)≤((b0.toNat % 32*64+b1.toNat % 64:Nat):Int)∧((b0.toNat % 32*64+b1.toNat % 64:Nat):Int)≤2047:=by omega
       refine⟨r,?_,by rw [ZaN];simp only;omega,by rw [Zf6 hr.1 hr.2];rfl⟩;rw [Zf6 hr.1 hr.2];simp only [List.cons_append,List.nil_append,List.cons.injEq,and_true];exact⟨(ZbX (by omega)).symm,(ZbX (by omega)).symm⟩
     · intro he;exact absurd ⟨rfl,Nat.le_refl 1⟩ he
  rw [if_neg c1];by_cases c2:b0.toNat / 16=14∧(1≤r.length∧(r.getD 0 0).toNat / 64=2)∧(2≤r.length∧(r.getD 1 0).toNat / 64=2)
  · rw [if_pos c2];obtain⟨d0,⟨_,d2⟩,d3,d4⟩:=c2
    match r,d3,d2,d4 with
    |b1::b2::r,_,d2,d4=>
     have k1:=b1.toNat_lt;have k2:=b2.toNat_lt;simp only [List.getD_cons_zero,List.getD_cons_succ] at d2 d4⊢;split
     · rename_i e
       intro _;have hr:(2048≤((b0.toNat % 16*4096+b1.toNat % 64*64+b2.toNat % 64:Nat):Int)∧((b0.toNat % 16*4096+b1.toNat % 64*64+b2.toNat % 64:Nat):Int)<55296)∨(57343<((b0.toNat % 16*4096+b1.toNat % 64*64+b2.toNat % 64:Nat):Int)∧((b0.toNat % 16*4096+b1.toNat % 64*64+b2.toNat % 64:Nat):Int)≤65535):=by omega
       refine⟨r,?_,by rw [ZaN];simp only;omega,by rw [Zf5 hr];rfl⟩;rw [Zf5 hr];simp only [List.cons_append,List.nil_append,List.cons.injEq,and_true];exact⟨(ZbX (by omega)).symm,(ZbX (by omega)).symm,(ZbX (by omega)).symm⟩
     · intro he;exact absurd ⟨rfl,Nat.le_refl 1⟩ he
  rw [if_neg c2];by_cases c3:b0.toNat / 8=30∧(1≤r.length∧(r.getD 0 0).toNat / 64=2)∧(2≤r.length∧(r.getD 1 0).toNat / 64=2)∧(3≤r.length∧(r.getD 2 0).toNat / 64=2)
  · rw [if_pos c3];obtain⟨d0,⟨_,d2⟩,⟨_,d4⟩,d5,d6⟩:=c3
    match r,d5,d2,d4,d6 with
    |b1::b2::b3::r,_,d2,d4,d6=>
     have k1:=b1.toNat_lt;have k2:=b2.toNat_lt;have k3:=b3.toNat_lt;simp only [List.getD_cons_zero,List.getD_cons_succ] at d2 d4 d6⊢;split
     · rename_i e
       intro _;have hr:(65536:Int)≤((b0.toNat % 8*262144+b1.toNat % 64*4096+b2.toNat % 64*64+b3.toNat % 64:Nat):Int)∧((b0.toNat % 8*262144+b1.toNat % 64*4096+b2.toNat % 64*64+b3.toNat % 64:Nat):Int)≤1114111:=by omega
       refine⟨r,?_,by rw [ZaN];simp only;omega,by rw [Zf4 hr.1 hr.2];rfl⟩;rw [Zf4 hr.1 hr.2];simp only [List.cons_append,List.nil_append,List.cons.injEq,and_true];exact⟨(ZbX (by omega)).symm,(ZbX (by omega)).symm,(ZbX (by omega)).symm,(ZbX (by omega)).symm⟩
     · intro he;exact absurd ⟨rfl,Nat.le_refl 1⟩ he
  rw [if_neg c3];intro he;exact absurd ⟨rfl,Nat.le_refl 1⟩ he
def Good (s:ByteArray)(ps:List Int):Prop:=s.data.toList=Zc ps∧∀p∈ps,Zv p=true
def Za3 (s:ByteArray)(n:Nat):Prop:=∃ps r,s.data.toList=Zc ps++r∧(∀p∈ps,Zv p=true)∧n=(Zc ps).length∧r≠[]∧ZbC (ZA r)
theorem ZmO:∀n (l:List UInt8),l.length≤n→∃ps r,l=Zc ps++r∧(∀p∈ps,Zv p=true)∧(r=[]∨ZbC (ZA r))
 |0,l,h=>⟨[],[],by simpa [Zca] using h,by simp,.inl rfl⟩
 |n+1,l,h=>by
  by_cases h0:l=[]
  · exact⟨[],[],by simpa [Zca] using h0,by simp,.inl rfl⟩
  by_cases he:ZbC (ZA l)
  · exact⟨[],l,by simp [Zca],by simp,.inr he⟩
  obtain⟨t,ht,hs,_⟩:=Zqe h0 he;have hlt:t.length≤n:=by
   have h1:=congrArg List.length ht;rw [List.length_append] at h1;have:=(ZcS ((ZA l).1:Int)).1;omega
  obtain⟨ps,r,h1,h2,h3⟩:=ZmO n t hlt;refine⟨((ZA l).1:Int)::ps,r,?_,?_,h3⟩
  · rw [Za2,List.append_assoc,←h1];exact ht
  · intro p hp;rcases List.mem_cons.1 hp with rfl|hp
    · exact hs
    · exact h2 p hp
theorem Zq7 (s:ByteArray):(∃ps,Good s ps)∨∃n,Za3 s n:=by
 obtain⟨ps,r,h1,h2,h3⟩:=ZmO _ s.data.toList (Nat.le_refl _);rcases h3 with rfl|h3
 · exact .inl ⟨ps,by simpa using h1,h2⟩
 · by_cases hr:r=[]
   · subst hr;exact .inl ⟨ps,by simpa using h1,h2⟩
   · exact .inr ⟨_,ps,r,h1,h2,rfl,hr,h3⟩
theorem Zq8 {ps:List Int} (h:∀p∈ps,Zv p=true):Good ⟨(Zc ps).toArray⟩ ps:=⟨by simp,h⟩
theorem Good.size {s:ByteArray} {ps:List Int} (h:Good s ps):s.size=(Zc ps).length:=by
 rw [←h.1];simp
theorem ZcX (ps:List Int):ps.length≤(Zc ps).length∧(Zc ps).length≤4*ps.length:=by
 induction ps with
 |nil=>simp [Zca]
 |cons p ps ih=>
  have:=ZcS p;rw [Za2,List.length_append,List.length_cons];omega
theorem Good.len {s:ByteArray} {ps:List Int} (h:Good s ps):ps.length≤s.size:=by
 rw [h.size];exact(ZcX ps).1
theorem Za3.lt {s:ByteArray} {n:Nat} (h:Za3 s n):n<s.size:=by
 obtain⟨ps,r,h1,_,h3,h4,_⟩:=h;have:s.size=(Zc ps).length+r.length:=by rw [←List.length_append,←h1];simp
 have:0<r.length:=List.length_pos_iff.2 h4;omega
end Go.Proofs.YtecandjkbbpooaaGreatDoor
namespace Go.Proofs
open Go.Shelf
open Go.RowKit in
open Go.RowKit in
open Go.RowKit in
open Go.RowKit in
open Go.RowKit in
open Go.RowKit in
def Tryz.lays156_ren:Go.Shelf.Ren:=⟨fun|156=>76|165=>153|166=>154|169=>155|240=>230|241=>231|276=>288|277=>289|n=>n,fun|31=>90|9=>9|3=>3|4=>4|0=>0|20=>20|72=>203|76=>207|70=>201|37=>150|75=>206|127=>280|164=>323|5=>5|80=>135|n=>n,fun|n=>n⟩
theorem Tryz.lays156:Go.Proofs.Lays.n156 Tryz.prog Tryz.lays156_ren:={
 mixed:=by kernel_rfl
 f156:=Tryz.func76.trans (congrArg some (by kernel_rfl))
 f165:=Tryz.func153.trans (congrArg some (by kernel_rfl))
 f166:=Tryz.func154.trans (congrArg some (by kernel_rfl))
 f169:=Tryz.func155.trans (congrArg some (by kernel_rfl))
 f240:=Tryz.func230.trans (congrArg some (by kernel_rfl))
 f241:=Tryz.func231.trans (congrArg some (by kernel_rfl))
 f276:=Tryz.func288.trans (congrArg some (by kernel_rfl))
 f277:=Tryz.func289.trans (congrArg some (by kernel_rfl))
 t0:=Tryz.underlying0
 a0:=Tryz.isAgg0
 z0:=Tryz.sizeOf0
 v0:=Tryz.zeroValue0
 t3:=Tryz.underlying3
 a3:=Tryz.isAgg3
 z3:=Tryz.sizeOf3
 v3:=Tryz.zeroValue3
 t4:=Tryz.underlying4
 a4:=Tryz.isAgg4
 z4:=Tryz.sizeOf4
 v4:=Tryz.zeroValue4
 t9:=Tryz.underlying9
 a9:=Tryz.isAgg9
 z9:=Tryz.sizeOf9
 v9:=Tryz.zeroValue9
 t20:=Tryz.underlying20
 a20:=Tryz.isAgg20
 z20:=Tryz.sizeOf20
 v20:=Tryz.zeroValue20
 t31:=Tryz.underlying90
 a31:=Tryz.isAgg90
 z31:=Tryz.sizeOf90
 v31:=Tryz.zeroValue90
 t37:=Tryz.underlying150
 a37:=Tryz.isAgg150
 z37:=Tryz.sizeOf150
 v37:=Tryz.zeroValue150
 t70:=Tryz.underlying201
 a70:=Tryz.isAgg201
 z70:=Tryz.sizeOf201
 v70:=Tryz.zeroValue201
 t72:=Tryz.underlying203
 a72:=Tryz.isAgg203
 z72:=Tryz.sizeOf203
 v72:=Tryz.zeroValue203
 t75:=Tryz.underlying206
 a75:=Tryz.isAgg206
 z75:=Tryz.sizeOf206
 v75:=Tryz.zeroValue206
 t76:=Tryz.underlying207
 a76:=Tryz.isAgg207
 z76:=Tryz.sizeOf207
 v76:=Tryz.zeroValue207
 t127:=Tryz.underlying280
 a127:=Tryz.isAgg280
 z127:=Tryz.sizeOf280
 v127:=Tryz.zeroValue280
 t164:=Tryz.underlying323
 a164:=Tryz.isAgg323
 z164:=Tryz.sizeOf323
 v164:=Tryz.zeroValue323}
theorem Tryz.Builder_Extra_156:Builder.Extra Tryz.prog Tryz.lays156_ren:={
 sizeBuilder:=by kernel_rfl
 liesBuilder:=by kernel_rfl
 t5:=Tryz.underlying5
 a5:=Tryz.isAgg5
 z5:=Tryz.sizeOf5
 v5:=Tryz.zeroValue5
 infoByte:=by kernel_rfl
 cellsByte:=by kernel_rfl
 sizeByte:=by kernel_rfl
 neB5:=by decide}
open Go.RowKit in
theorem Tryz.strings_Join_none (a:Option Addr)(c:Nat)(sep:ByteArray)(w:World):
 Calls Tryz.prog 76 #[.slice a 0 c,.string sep] w fun e w'=>e= .returned (.string ⟨#[]⟩)∧w'=w:=Any.strings_Join_none Tryz.lays156 Tryz.Builder_Extra_156 a c sep w
open Go.RowKit in
theorem Tryz.strings_Join (bk o c:Nat)(xs:List ByteArray)(sep:ByteArray)(w:World)(hcells:∀(j:Nat) x,xs[j]? =some x→w.cell? ⟨bk,o+j,none⟩=some (.string x))(hbk:bk<w.heap.size)(hN:xs.length≤140737488355328)(hcap:xs.length≤c)(hlen:(Lib.join (xs.map (·.data.toList)) sep.data.toList).length≤140737488355328):
 Calls Tryz.prog 76 #[.slice (some ⟨bk,o,none⟩) xs.length c,.string sep] w fun e w'=>e= .returned (.string ⟨(Lib.join (xs.map (·.data.toList)) sep.data.toList).toArray⟩)∧Below w.heap.size w w':=Any.strings_Join Tryz.lays156 Tryz.Builder_Extra_156 bk o c xs sep w hcells hbk hN hcap hlen
open Go.RowKit in
open Go.RowKit in
open Go.RowKit in
open Go.RowKit in
def Tryz.lays118_ren:Go.Shelf.Ren:=⟨fun|118=>326|n=>n,fun|21=>21|3=>3|4=>4|n=>n,fun|n=>n⟩
theorem Tryz.lays118:Go.Proofs.Lays.n118 Tryz.prog Tryz.lays118_ren:={
 mixed:=by kernel_rfl
 f118:=Tryz.func326.trans (congrArg some (by kernel_rfl))
 t3:=Tryz.underlying3
 a3:=Tryz.isAgg3
 z3:=Tryz.sizeOf3
 v3:=Tryz.zeroValue3
 t4:=Tryz.underlying4
 a4:=Tryz.isAgg4
 z4:=Tryz.sizeOf4
 v4:=Tryz.zeroValue4
 t21:=Tryz.underlying21
 a21:=Tryz.isAgg21
 z21:=Tryz.sizeOf21
 v21:=Tryz.zeroValue21}
theorem Tryz.utf8_RuneLen (r:Int)(w:World):
 Calls Tryz.prog 326 #[.int .i32 r] w fun e w'=>e= .returned (.int .i64 (Lib.runeLen r))∧w'=w:=Any.utf8_RuneLen Tryz.lays118 r w
def Tryz.lays137_ren:Go.Shelf.Ren:=⟨fun|137=>250|217=>304|266=>336|n=>n,fun|9=>9|5=>5|3=>3|n=>n,fun|n=>n⟩
theorem Tryz.lays137:Go.Proofs.Lays.n137 Tryz.prog Tryz.lays137_ren:={
 mixed:=by kernel_rfl
 f137:=Tryz.func250.trans (congrArg some (by kernel_rfl))
 f217:=Tryz.func304.trans (congrArg some (by kernel_rfl))
 f266:=Tryz.func336.trans (congrArg some (by kernel_rfl))
 t3:=Tryz.underlying3
 a3:=Tryz.isAgg3
 z3:=Tryz.sizeOf3
 v3:=Tryz.zeroValue3
 t5:=Tryz.underlying5
 a5:=Tryz.isAgg5
 z5:=Tryz.sizeOf5
 v5:=Tryz.zeroValue5
 t9:=Tryz.underlying9
 a9:=Tryz.isAgg9
 z9:=Tryz.sizeOf9
 v9:=Tryz.zeroValue9}
open Go.RowKit in
theorem Tryz.strings_IndexByte (s:ByteArray)(c:Int)(w:World):
 Calls Tryz.prog 250 #[.string s,.int .u8 c] w fun e w'=>e= .returned (.int .i64 (Lib.indexByte s.data.toList c.toNat.toUInt8))∧w'=w:=Any.strings_IndexByte Tryz.lays137 s c w
open Go.RowKit in
open Go.RowKit in
open Go.RowKit in
open Go.RowKit in
open Go.RowKit in
def Tryz.lays122_ren:Go.Shelf.Ren:=⟨fun|122=>342|215=>364|n=>n,fun|3=>3|4=>4|n=>n,fun|n=>n⟩
theorem Tryz.lays122:Go.Proofs.Lays.n122 Tryz.prog Tryz.lays122_ren:={
 mixed:=by kernel_rfl
 f122:=Tryz.func342.trans (congrArg some (by kernel_rfl))
 f215:=Tryz.func364.trans (congrArg some (by kernel_rfl))
 t3:=Tryz.underlying3
 a3:=Tryz.isAgg3
 z3:=Tryz.sizeOf3
 v3:=Tryz.zeroValue3
 t4:=Tryz.underlying4
 a4:=Tryz.isAgg4
 z4:=Tryz.sizeOf4
 v4:=Tryz.zeroValue4}
open Go.RowKit in
theorem Tryz.cmp_Compare_int (x y:Int)(w:World):
 Calls Tryz.prog 342 #[.int .i64 x,.int .i64 y] w fun e w'=>e= .returned (.int .i64 (Lib.compareInt x y))∧w'=w:=Any.cmp_Compare_int Tryz.lays122 x y w
open Go.RowKit in
open Go.RowKit in
open Go.RowKit in
open Go.RowKit in
open Go.RowKit in
open Go.RowKit in
open Go.RowKit in
open Go.RowKit in
def Tryz.lays242_ren:Go.Shelf.Ren:=⟨fun|242=>170|278=>243|n=>n,fun|37=>150|21=>21|51=>41|4=>4|5=>5|46=>152|n=>n,fun|n=>n⟩
theorem Tryz.lays242:Go.Proofs.Lays.n242 Tryz.prog Tryz.lays242_ren:={
 mixed:=by kernel_rfl
 f242:=Tryz.func170.trans (congrArg some (by kernel_rfl))
 f278:=Tryz.func243.trans (congrArg some (by kernel_rfl))
 t4:=Tryz.underlying4
 a4:=Tryz.isAgg4
 z4:=Tryz.sizeOf4
 v4:=Tryz.zeroValue4
 t5:=Tryz.underlying5
 a5:=Tryz.isAgg5
 z5:=Tryz.sizeOf5
 v5:=Tryz.zeroValue5
 t21:=Tryz.underlying21
 a21:=Tryz.isAgg21
 z21:=Tryz.sizeOf21
 v21:=Tryz.zeroValue21
 t37:=Tryz.underlying150
 a37:=Tryz.isAgg150
 z37:=Tryz.sizeOf150
 v37:=Tryz.zeroValue150
 t46:=Tryz.underlying152
 a46:=Tryz.isAgg152
 z46:=Tryz.sizeOf152
 v46:=Tryz.zeroValue152
 t51:=Tryz.underlying41
 a51:=Tryz.isAgg41
 z51:=Tryz.sizeOf41
 v51:=Tryz.zeroValue41}
open Go.RowKit in
open Go.RowKit in
open Go.RowKit in
theorem Tryz.utf8_AppendRune_plain (B:Nat)(v:Value)(n:Nat)(xs:List Value)(r:Int)(hr0: -2147483648≤r)(hr1:r≤2147483647)(w:World)(hown:w.ownsRow B 5 1 v n xs)(hlen:n+4≤140737488355328)(hBw:B≤w.heap.size):
 Calls Tryz.prog 170 #[v,.int .i32 r] w fun e w'=>∃v',e= .returned v'∧w'.ownsRow B 5 1 v' (n+(Lib.runeCells r).length) (xs++Lib.runeCells r)∧∃o,(w.alloc o).grownBy w' v.ownBlock:=Any.utf8_AppendRune_plain Tryz.lays242 (by kernel_rfl) B v n xs r hr0 hr1 w hown hlen hBw
open Go.RowKit in
open Go.RowKit in
open Go.RowKit in
open Go.RowKit Go.Lib in
open Go.RowKit Go.Lib in
open Go.RowKit Go.Lib in
open Go.RowKit Go.Lib in
open Go.RowKit Go.Lib in
open Go.RowKit Go.Lib in
def Tryz.lays143_ren:Go.Shelf.Ren:=⟨fun|143=>298|219=>335|217=>304|225=>253|224=>252|267=>359|266=>336|314=>377|n=>n,fun|9=>9|3=>3|4=>4|5=>5|46=>152|146=>332|51=>41|n=>n,fun|1=>3|n=>n⟩
theorem Tryz.lays143:Go.Proofs.Lays.n143 Tryz.prog Tryz.lays143_ren:={
 mixed:=by kernel_rfl
 f143:=Tryz.func298.trans (congrArg some (by kernel_rfl))
 f217:=Tryz.func304.trans (congrArg some (by kernel_rfl))
 f219:=Tryz.func335.trans (congrArg some (by kernel_rfl))
 f224:=Tryz.func252.trans (congrArg some (by kernel_rfl))
 f225:=Tryz.func253.trans (congrArg some (by kernel_rfl))
 f266:=Tryz.func336.trans (congrArg some (by kernel_rfl))
 f267:=Tryz.func359.trans (congrArg some (by kernel_rfl))
 f314:=Tryz.func377.trans (congrArg some (by kernel_rfl))
 t3:=Tryz.underlying3
 a3:=Tryz.isAgg3
 z3:=Tryz.sizeOf3
 v3:=Tryz.zeroValue3
 t4:=Tryz.underlying4
 a4:=Tryz.isAgg4
 z4:=Tryz.sizeOf4
 v4:=Tryz.zeroValue4
 t5:=Tryz.underlying5
 a5:=Tryz.isAgg5
 z5:=Tryz.sizeOf5
 v5:=Tryz.zeroValue5
 t9:=Tryz.underlying9
 a9:=Tryz.isAgg9
 z9:=Tryz.sizeOf9
 v9:=Tryz.zeroValue9
 t46:=Tryz.underlying152
 a46:=Tryz.isAgg152
 z46:=Tryz.sizeOf152
 v46:=Tryz.zeroValue152
 t51:=Tryz.underlying41
 a51:=Tryz.isAgg41
 z51:=Tryz.sizeOf41
 v51:=Tryz.zeroValue41
 t146:=Tryz.underlying332
 a146:=Tryz.isAgg332
 z146:=Tryz.sizeOf332
 v146:=Tryz.zeroValue332
 g1:=by kernel_rfl}
open Go.RowKit Go.Lib in
open Go.RowKit Go.Lib in
theorem Tryz.strings_Index (s sub:ByteArray)(m:Int)(w:World)(hs:s.size<4294967281)(hm:w.cell? ⟨3,0,none⟩=some (.int .i64 m)):
 Calls Tryz.prog 298 #[.string s,.string sub] w fun e w'=>e= .returned (.int .i64 (Lib.index s.data.toList sub.data.toList))∧w'=w:=Any.strings_Index Tryz.lays143 s sub m w hs hm
open Go.RowKit Go.Lib in
open Go.RowKit Go.Lib in
def Tryz.lays138_ren:Go.Shelf.Ren:=⟨fun|138=>358|195=>375|218=>376|143=>298|219=>335|217=>304|225=>253|224=>252|267=>359|266=>336|314=>377|n=>n,fun|9=>9|3=>3|4=>4|5=>5|0=>0|46=>152|146=>332|51=>41|n=>n,fun|1=>3|n=>n⟩
theorem Tryz.lays138:Go.Proofs.Lays.n138 Tryz.prog Tryz.lays138_ren:={
 mixed:=by kernel_rfl
 f138:=Tryz.func358.trans (congrArg some (by kernel_rfl))
 f143:=Tryz.func298.trans (congrArg some (by kernel_rfl))
 f195:=Tryz.func375.trans (congrArg some (by kernel_rfl))
 f217:=Tryz.func304.trans (congrArg some (by kernel_rfl))
 f218:=Tryz.func376.trans (congrArg some (by kernel_rfl))
 f219:=Tryz.func335.trans (congrArg some (by kernel_rfl))
 f224:=Tryz.func252.trans (congrArg some (by kernel_rfl))
 f225:=Tryz.func253.trans (congrArg some (by kernel_rfl))
 f266:=Tryz.func336.trans (congrArg some (by kernel_rfl))
 f267:=Tryz.func359.trans (congrArg some (by kernel_rfl))
 f314:=Tryz.func377.trans (congrArg some (by kernel_rfl))
 t0:=Tryz.underlying0
 a0:=Tryz.isAgg0
 z0:=Tryz.sizeOf0
 v0:=Tryz.zeroValue0
 t3:=Tryz.underlying3
 a3:=Tryz.isAgg3
 z3:=Tryz.sizeOf3
 v3:=Tryz.zeroValue3
 t4:=Tryz.underlying4
 a4:=Tryz.isAgg4
 z4:=Tryz.sizeOf4
 v4:=Tryz.zeroValue4
 t5:=Tryz.underlying5
 a5:=Tryz.isAgg5
 z5:=Tryz.sizeOf5
 v5:=Tryz.zeroValue5
 t9:=Tryz.underlying9
 a9:=Tryz.isAgg9
 z9:=Tryz.sizeOf9
 v9:=Tryz.zeroValue9
 t46:=Tryz.underlying152
 a46:=Tryz.isAgg152
 z46:=Tryz.sizeOf152
 v46:=Tryz.zeroValue152
 t51:=Tryz.underlying41
 a51:=Tryz.isAgg41
 z51:=Tryz.sizeOf41
 v51:=Tryz.zeroValue41
 t146:=Tryz.underlying332
 a146:=Tryz.isAgg332
 z146:=Tryz.sizeOf332
 v146:=Tryz.zeroValue332
 g1:=by kernel_rfl}
open Go.RowKit Go.Lib in
open Go.RowKit Go.Lib in
open Go.RowKit Go.Lib in
def Tryz.laysM143_ren:Go.Shelf.Ren:=⟨fun|143=>298|219=>335|217=>304|225=>253|224=>252|267=>359|266=>336|314=>377|n=>n,fun|9=>9|3=>3|4=>4|5=>5|46=>152|146=>332|51=>41|n=>n,fun|1=>3|n=>n⟩
theorem Tryz.laysM143:Go.Proofs.LaysM.n143 Tryz.prog Tryz.laysM143_ren:={
 mixed:=by kernel_rfl
 f143:=Tryz.func298.trans (congrArg some (by kernel_rfl))
 f217:=Tryz.func304.trans (congrArg some (by kernel_rfl))
 f219:=Tryz.func335.trans (congrArg some (by kernel_rfl))
 f224:=Tryz.func252.trans (congrArg some (by kernel_rfl))
 f225:=Tryz.func253.trans (congrArg some (by kernel_rfl))
 f266:=Tryz.func336.trans (congrArg some (by kernel_rfl))
 f267:=Tryz.func359.trans (congrArg some (by kernel_rfl))
 f314:=Tryz.func377.trans (congrArg some (by kernel_rfl))
 t3:=Tryz.underlying3
 a3:=Tryz.isAgg3
 z3:=Tryz.sizeOf3
 v3:=Tryz.zeroValue3
 t4:=Tryz.underlying4
 a4:=Tryz.isAgg4
 z4:=Tryz.sizeOf4
 v4:=Tryz.zeroValue4
 t5:=Tryz.underlying5
 a5:=Tryz.isAgg5
 z5:=Tryz.sizeOf5
 v5:=Tryz.zeroValue5
 t9:=Tryz.underlying9
 a9:=Tryz.isAgg9
 z9:=Tryz.sizeOf9
 v9:=Tryz.zeroValue9
 t46:=Tryz.underlying152
 a46:=Tryz.isAgg152
 z46:=Tryz.sizeOf152
 v46:=Tryz.zeroValue152
 t51:=Tryz.underlying41
 a51:=Tryz.isAgg41
 z51:=Tryz.sizeOf41
 v51:=Tryz.zeroValue41
 t146:=Tryz.underlying332
 a146:=Tryz.isAgg332
 z146:=Tryz.sizeOf332
 v146:=Tryz.zeroValue332
 g1:=by kernel_rfl
 i3:=by kernel_rfl
 i4:=by kernel_rfl
 i5:=by kernel_rfl
 i9:=by kernel_rfl
 i46:=by kernel_rfl
 i51:=by kernel_rfl
 i146:=by kernel_rfl
 m1:=by kernel_rfl
 s1_3:=fun w h=>Go.Proofs.cell_of_shapedOpen_int (zero:=#[.int .i64 0]) (t:=3) h (of_decide_eq_true (by kernel_rfl)) (by kernel_rfl) rfl (by kernel_rfl) (by kernel_rfl) Tryz.underlying3}
open Go.RowKit Go.Lib in
open Go.RowKit Go.Lib in
open Go.RowKit Go.Lib in
open Go.RowKit Go.Lib in
open Go.RowKit Go.Lib in
open Go.RowKit Go.Lib in
open Go.RowKit Go.Lib in
open Go.RowKit Go.Lib in
open Go.RowKit Go.Lib in
open Go.RowKit Go.Lib in
open Go.RowKit Go.Lib in
open Go.RowKit Go.Lib in
open Go.RowKit Go.Lib in
def Tryz.lays99_ren:Go.Shelf.Ren:=⟨fun|99=>24|206=>70|n=>n,fun|9=>9|4=>4|3=>3|n=>n,fun|n=>n⟩
theorem Tryz.lays99:Go.Proofs.Lays.n99 Tryz.prog Tryz.lays99_ren:={
 mixed:=by kernel_rfl
 f99:=Tryz.func24.trans (congrArg some (by kernel_rfl))
 f206:=Tryz.func70.trans (congrArg some (by kernel_rfl))
 t3:=Tryz.underlying3
 a3:=Tryz.isAgg3
 z3:=Tryz.sizeOf3
 v3:=Tryz.zeroValue3
 t4:=Tryz.underlying4
 a4:=Tryz.isAgg4
 z4:=Tryz.sizeOf4
 v4:=Tryz.zeroValue4
 t9:=Tryz.underlying9
 a9:=Tryz.isAgg9
 z9:=Tryz.sizeOf9
 v9:=Tryz.zeroValue9}
open Go.RowKit Go.Lib in
theorem Tryz.strings_HasPrefix (s p:ByteArray)(w:World):
 Calls Tryz.prog 24 #[.string s,.string p] w fun e w'=>e= .returned (.bool (Lib.hasPrefix s.data.toList p.data.toList))∧w'=w:=Any.strings_HasPrefix Tryz.lays99 s p w
open Go.RowKit Go.Lib in
open Go.RowKit Go.Lib in
open Go.RowKit Go.Lib in
open Go.RowKit Go.Lib in
theorem Tryz.strings_Count_any (s sep:ByteArray)(m:Int)(w:World)(hs:s.size<4294967281)(hm:w.cell? ⟨3,0,none⟩=some (.int .i64 m))(h1:1≤sep.size):
 Calls Tryz.prog 358 #[.string s,.string sep] w fun e w'=>e= .returned (.int .i64 (Lib.countB s sep))∧w'=w:=Any.strings_Count_any Tryz.lays138 s sep m w hs hm h1
open Go.RowKit Go.Lib in
open Go.RowKit Go.Lib in
open Go.RowKit Go.Lib in
open Go.RowKit Go.Lib in
open Go.RowKit Go.Lib in
def Tryz.lays197_ren:Go.Shelf.Ren:=⟨fun|197=>247|260=>302|n=>n,fun|9=>9|21=>21|3=>3|4=>4|5=>5|105=>221|119=>211|0=>0|46=>152|139=>214|138=>213|n=>n,fun|3=>1|4=>2|n=>n⟩
theorem Tryz.lays197:Go.Proofs.Lays.n197 Tryz.prog Tryz.lays197_ren:={
 mixed:=by kernel_rfl
 f197:=Tryz.func247.trans (congrArg some (by kernel_rfl))
 f260:=Tryz.func302.trans (congrArg some (by kernel_rfl))
 t0:=Tryz.underlying0
 a0:=Tryz.isAgg0
 z0:=Tryz.sizeOf0
 v0:=Tryz.zeroValue0
 t3:=Tryz.underlying3
 a3:=Tryz.isAgg3
 z3:=Tryz.sizeOf3
 v3:=Tryz.zeroValue3
 t4:=Tryz.underlying4
 a4:=Tryz.isAgg4
 z4:=Tryz.sizeOf4
 v4:=Tryz.zeroValue4
 t5:=Tryz.underlying5
 a5:=Tryz.isAgg5
 z5:=Tryz.sizeOf5
 v5:=Tryz.zeroValue5
 t9:=Tryz.underlying9
 a9:=Tryz.isAgg9
 z9:=Tryz.sizeOf9
 v9:=Tryz.zeroValue9
 t21:=Tryz.underlying21
 a21:=Tryz.isAgg21
 z21:=Tryz.sizeOf21
 v21:=Tryz.zeroValue21
 t46:=Tryz.underlying152
 a46:=Tryz.isAgg152
 z46:=Tryz.sizeOf152
 v46:=Tryz.zeroValue152
 t105:=Tryz.underlying221
 a105:=Tryz.isAgg221
 z105:=Tryz.sizeOf221
 v105:=Tryz.zeroValue221
 t119:=Tryz.underlying211
 a119:=Tryz.isAgg211
 z119:=Tryz.sizeOf211
 t138:=Tryz.underlying213
 a138:=Tryz.isAgg213
 z138:=Tryz.sizeOf213
 v138:=Tryz.zeroValue213
 t139:=Tryz.underlying214
 a139:=Tryz.isAgg214
 z139:=Tryz.sizeOf214
 v139:=Tryz.zeroValue214
 g3:=by kernel_rfl
 g4:=by kernel_rfl}
open Go.RowKit Go.Lib in
def Tryz.lays152_ren:Go.Shelf.Ren:=⟨fun|152=>189|137=>250|119=>251|224=>252|225=>253|217=>304|266=>336|n=>n,fun|9=>9|21=>21|3=>3|4=>4|5=>5|0=>0|46=>152|n=>n,fun|n=>n⟩
theorem Tryz.lays152:Go.Proofs.Lays.n152 Tryz.prog Tryz.lays152_ren:={
 mixed:=by kernel_rfl
 f119:=Tryz.func251.trans (congrArg some (by kernel_rfl))
 f137:=Tryz.func250.trans (congrArg some (by kernel_rfl))
 f152:=Tryz.func189.trans (congrArg some (by kernel_rfl))
 f217:=Tryz.func304.trans (congrArg some (by kernel_rfl))
 f224:=Tryz.func252.trans (congrArg some (by kernel_rfl))
 f225:=Tryz.func253.trans (congrArg some (by kernel_rfl))
 f266:=Tryz.func336.trans (congrArg some (by kernel_rfl))
 t0:=Tryz.underlying0
 a0:=Tryz.isAgg0
 z0:=Tryz.sizeOf0
 v0:=Tryz.zeroValue0
 t3:=Tryz.underlying3
 a3:=Tryz.isAgg3
 z3:=Tryz.sizeOf3
 v3:=Tryz.zeroValue3
 t4:=Tryz.underlying4
 a4:=Tryz.isAgg4
 z4:=Tryz.sizeOf4
 v4:=Tryz.zeroValue4
 t5:=Tryz.underlying5
 a5:=Tryz.isAgg5
 z5:=Tryz.sizeOf5
 v5:=Tryz.zeroValue5
 t9:=Tryz.underlying9
 a9:=Tryz.isAgg9
 z9:=Tryz.sizeOf9
 v9:=Tryz.zeroValue9
 t21:=Tryz.underlying21
 a21:=Tryz.isAgg21
 z21:=Tryz.sizeOf21
 v21:=Tryz.zeroValue21
 t46:=Tryz.underlying152
 a46:=Tryz.isAgg152
 z46:=Tryz.sizeOf152
 v46:=Tryz.zeroValue152}
open Go.RowKit Go.Lib in
theorem Tryz.strings_IndexRune_ascii (s:ByteArray)(r:Int)(w:World)(h0:0≤r)(h1:r<128):
 Calls Tryz.prog 189 #[.string s,.int .i32 r] w fun e w'=>e= .returned (.int .i64 (Lib.indexByte s.data.toList r.toNat.toUInt8))∧w'=w:=Any.strings_IndexRune_ascii Tryz.lays152 s r w h0 h1
open Go.RowKit Go.Lib in
open Go.RowKit Go.Lib in
open Go.RowKit Go.Lib in
open Go.RowKit Go.Lib in
open Go.RowKit Go.Lib in
open Go.RowKit Go.Lib in
open Go.RowKit Go.Lib in
open Go.RowKit Go.Lib in
open Go.RowKit Go.Lib in
open Go.RowKit Go.Lib in
open Go.RowKit Go.Lib in
open Go.RowKit Go.Lib in
open Go.RowKit Go.Lib in
open Go.RowKit Go.Lib in
open Go.RowKit Go.Lib in
open Go.RowKit Go.Lib in
def Tryz.lays105_ren:Go.Shelf.Ren:=⟨fun|105=>232|212=>290|99=>24|165=>153|166=>154|170=>291|169=>155|263=>332|264=>333|206=>70|240=>230|241=>231|276=>288|277=>289|n=>n,fun|9=>9|3=>3|4=>4|20=>20|0=>0|46=>152|109=>326|5=>5|72=>203|76=>207|51=>41|146=>332|53=>40|148=>355|70=>201|37=>150|75=>206|127=>280|164=>323|80=>135|n=>n,fun|n=>n⟩
theorem Tryz.lays105:Go.Proofs.Lays.n105 Tryz.prog Tryz.lays105_ren:={
 mixed:=by kernel_rfl
 f99:=Tryz.func24.trans (congrArg some (by kernel_rfl))
 f105:=Tryz.func232.trans (congrArg some (by kernel_rfl))
 f165:=Tryz.func153.trans (congrArg some (by kernel_rfl))
 f166:=Tryz.func154.trans (congrArg some (by kernel_rfl))
 f169:=Tryz.func155.trans (congrArg some (by kernel_rfl))
 f170:=Tryz.func291.trans (congrArg some (by kernel_rfl))
 f206:=Tryz.func70.trans (congrArg some (by kernel_rfl))
 f212:=Tryz.func290.trans (congrArg some (by kernel_rfl))
 f240:=Tryz.func230.trans (congrArg some (by kernel_rfl))
 f241:=Tryz.func231.trans (congrArg some (by kernel_rfl))
 f263:=Tryz.func332.trans (congrArg some (by kernel_rfl))
 f264:=Tryz.func333.trans (congrArg some (by kernel_rfl))
 f276:=Tryz.func288.trans (congrArg some (by kernel_rfl))
 f277:=Tryz.func289.trans (congrArg some (by kernel_rfl))
 t0:=Tryz.underlying0
 a0:=Tryz.isAgg0
 z0:=Tryz.sizeOf0
 v0:=Tryz.zeroValue0
 t3:=Tryz.underlying3
 a3:=Tryz.isAgg3
 z3:=Tryz.sizeOf3
 v3:=Tryz.zeroValue3
 t4:=Tryz.underlying4
 a4:=Tryz.isAgg4
 z4:=Tryz.sizeOf4
 v4:=Tryz.zeroValue4
 t5:=Tryz.underlying5
 a5:=Tryz.isAgg5
 z5:=Tryz.sizeOf5
 v5:=Tryz.zeroValue5
 t9:=Tryz.underlying9
 a9:=Tryz.isAgg9
 z9:=Tryz.sizeOf9
 v9:=Tryz.zeroValue9
 t20:=Tryz.underlying20
 a20:=Tryz.isAgg20
 z20:=Tryz.sizeOf20
 v20:=Tryz.zeroValue20
 t37:=Tryz.underlying150
 a37:=Tryz.isAgg150
 z37:=Tryz.sizeOf150
 v37:=Tryz.zeroValue150
 t46:=Tryz.underlying152
 a46:=Tryz.isAgg152
 z46:=Tryz.sizeOf152
 v46:=Tryz.zeroValue152
 t51:=Tryz.underlying41
 a51:=Tryz.isAgg41
 z51:=Tryz.sizeOf41
 v51:=Tryz.zeroValue41
 t53:=Tryz.underlying40
 a53:=Tryz.isAgg40
 z53:=Tryz.sizeOf40
 v53:=Tryz.zeroValue40
 t70:=Tryz.underlying201
 a70:=Tryz.isAgg201
 z70:=Tryz.sizeOf201
 v70:=Tryz.zeroValue201
 t72:=Tryz.underlying203
 a72:=Tryz.isAgg203
 z72:=Tryz.sizeOf203
 v72:=Tryz.zeroValue203
 t75:=Tryz.underlying206
 a75:=Tryz.isAgg206
 z75:=Tryz.sizeOf206
 v75:=Tryz.zeroValue206
 t76:=Tryz.underlying207
 a76:=Tryz.isAgg207
 z76:=Tryz.sizeOf207
 v76:=Tryz.zeroValue207
 t109:=Tryz.underlying326
 a109:=Tryz.isAgg326
 z109:=Tryz.sizeOf326
 v109:=Tryz.zeroValue326
 t127:=Tryz.underlying280
 a127:=Tryz.isAgg280
 z127:=Tryz.sizeOf280
 v127:=Tryz.zeroValue280
 t146:=Tryz.underlying332
 a146:=Tryz.isAgg332
 z146:=Tryz.sizeOf332
 v146:=Tryz.zeroValue332
 t148:=Tryz.underlying355
 a148:=Tryz.isAgg355
 z148:=Tryz.sizeOf355
 v148:=Tryz.zeroValue355
 t164:=Tryz.underlying323
 a164:=Tryz.isAgg323
 z164:=Tryz.sizeOf323
 v164:=Tryz.zeroValue323}
theorem Tryz.Builder_Extra_105:Builder.Extra Tryz.prog Tryz.lays105_ren:={
 sizeBuilder:=by kernel_rfl
 liesBuilder:=by kernel_rfl
 t5:=Tryz.underlying5
 a5:=Tryz.isAgg5
 z5:=Tryz.sizeOf5
 v5:=Tryz.zeroValue5
 infoByte:=by kernel_rfl
 cellsByte:=by kernel_rfl
 sizeByte:=by kernel_rfl
 neB5:=by decide}
open Go.RowKit Go.Lib in
open Go.RowKit Go.Lib in
open Go.RowKit Go.Lib in
open Go.RowKit Go.Lib in
open Go.RowKit Go.Lib in
open Go.RowKit Go.Lib in
open Go.RowKit Go.Lib in
theorem Tryz.strings_Repeat (s:ByteArray)(c:Nat)(w:World)(hc:c≤9223372036854775807)(hlen:s.size*c≤140737488355328):
 Calls Tryz.prog 232 #[.string s,.int .i64 c] w fun e w'=>e= .returned (.string ⟨(Lib.repeatL s.data.toList c).toArray⟩)∧Below w.heap.size w w':=Any.strings_Repeat Tryz.lays105 Tryz.Builder_Extra_105 s c w hc hlen
def Tryz.lays260_ren:Go.Shelf.Ren:=⟨fun|260=>302|n=>n,fun|9=>9|21=>21|3=>3|4=>4|5=>5|119=>211|0=>0|46=>152|139=>214|138=>213|n=>n,fun|3=>1|4=>2|n=>n⟩
theorem Tryz.lays260:Go.Proofs.Lays.n260 Tryz.prog Tryz.lays260_ren:={
 mixed:=by kernel_rfl
 f260:=Tryz.func302.trans (congrArg some (by kernel_rfl))
 t0:=Tryz.underlying0
 a0:=Tryz.isAgg0
 z0:=Tryz.sizeOf0
 v0:=Tryz.zeroValue0
 t3:=Tryz.underlying3
 a3:=Tryz.isAgg3
 z3:=Tryz.sizeOf3
 v3:=Tryz.zeroValue3
 t4:=Tryz.underlying4
 a4:=Tryz.isAgg4
 z4:=Tryz.sizeOf4
 v4:=Tryz.zeroValue4
 t5:=Tryz.underlying5
 a5:=Tryz.isAgg5
 z5:=Tryz.sizeOf5
 v5:=Tryz.zeroValue5
 t9:=Tryz.underlying9
 a9:=Tryz.isAgg9
 z9:=Tryz.sizeOf9
 v9:=Tryz.zeroValue9
 t21:=Tryz.underlying21
 a21:=Tryz.isAgg21
 z21:=Tryz.sizeOf21
 v21:=Tryz.zeroValue21
 t46:=Tryz.underlying152
 a46:=Tryz.isAgg152
 z46:=Tryz.sizeOf152
 v46:=Tryz.zeroValue152
 t119:=Tryz.underlying211
 a119:=Tryz.isAgg211
 z119:=Tryz.sizeOf211
 t138:=Tryz.underlying213
 a138:=Tryz.isAgg213
 z138:=Tryz.sizeOf213
 v138:=Tryz.zeroValue213
 t139:=Tryz.underlying214
 a139:=Tryz.isAgg214
 z139:=Tryz.sizeOf214
 v139:=Tryz.zeroValue214
 g3:=by kernel_rfl
 g4:=by kernel_rfl}
open Go.RowKit Go.Lib in
open Go.RowKit Go.Lib in
theorem Tryz.utf8_DecodeRuneInString (s:ByteArray)(w:World)(hT:Lib.Utf8Tabs 1 2 w):
 Calls Tryz.prog 247 #[.string s] w fun e w'=>e= .returned (.tuple #[.int .i32 (Lib.decodeGo s).1,.int .i64 (Lib.decodeGo s).2])∧Below w.heap.size w w':=Any.utf8_DecodeRuneInString Tryz.lays197 s w hT
open Go.RowKit Go.Lib in
open Go.RowKit Go.Lib in
def Tryz.laysValid_ren:Go.Shelf.Ren:=⟨fun|196=>86|259=>164|n=>n,fun|9=>9|4=>4|3=>3|5=>5|12=>12|119=>211|0=>0|46=>152|139=>214|138=>213|53=>40|n=>n,fun|3=>1|4=>2|n=>n⟩
theorem Tryz.laysValid:Go.Proofs.Lays.n196 Tryz.prog Tryz.laysValid_ren:={
 mixed:=by kernel_rfl
 f196:=Tryz.func86.trans (congrArg some (by kernel_rfl))
 f259:=Tryz.func164.trans (congrArg some (by kernel_rfl))
 t0:=Tryz.underlying0
 a0:=Tryz.isAgg0
 z0:=Tryz.sizeOf0
 v0:=Tryz.zeroValue0
 t3:=Tryz.underlying3
 a3:=Tryz.isAgg3
 z3:=Tryz.sizeOf3
 v3:=Tryz.zeroValue3
 t4:=Tryz.underlying4
 a4:=Tryz.isAgg4
 z4:=Tryz.sizeOf4
 v4:=Tryz.zeroValue4
 t5:=Tryz.underlying5
 a5:=Tryz.isAgg5
 z5:=Tryz.sizeOf5
 v5:=Tryz.zeroValue5
 t9:=Tryz.underlying9
 a9:=Tryz.isAgg9
 z9:=Tryz.sizeOf9
 v9:=Tryz.zeroValue9
 t12:=Tryz.underlying12
 a12:=Tryz.isAgg12
 z12:=Tryz.sizeOf12
 v12:=Tryz.zeroValue12
 t46:=Tryz.underlying152
 a46:=Tryz.isAgg152
 z46:=Tryz.sizeOf152
 v46:=Tryz.zeroValue152
 t53:=Tryz.underlying40
 a53:=Tryz.isAgg40
 z53:=Tryz.sizeOf40
 v53:=Tryz.zeroValue40
 t119:=Tryz.underlying211
 a119:=Tryz.isAgg211
 z119:=Tryz.sizeOf211
 t138:=Tryz.underlying213
 a138:=Tryz.isAgg213
 z138:=Tryz.sizeOf213
 v138:=Tryz.zeroValue213
 t139:=Tryz.underlying214
 a139:=Tryz.isAgg214
 z139:=Tryz.sizeOf214
 v139:=Tryz.zeroValue214
 g3:=by kernel_rfl
 g4:=by kernel_rfl}
end Go.Proofs
