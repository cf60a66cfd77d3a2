/- Lemmas for a statement on the tops; conditions: as each says. -/
import Derived.Below
import Derived.Laws.OwnMore
import Derived.Deep.AppendLies
import Derived.Deep.Draws
import Derived.Lib.Hide
import Derived.WalkKit
import Derived.Lib.RuneBytes
import Derived.Lib.DecodeN
import Derived.Shelf.Unicode.ValidAny
import Derived.Shelf.Spec.TrailingZeros
import Derived.Shelf.Strings.Builder1
import Derived.Shelf.Strings.Builder2
import Derived.Shelf.Strings.OnBuilder
import Derived.Shelf.Strings.Trim
import Derived.Shelf.Small.Utf8
import Derived.Shelf.Small.Bits
import Derived.Shelf.Small.Strs
import Derived.Shelf.Small.Wraps
import Derived.Shelf.Strings.BuilderF
import Derived.Shelf.Strings.BuilderK
import Derived.Shelf.Utf8.AppendRune
import Derived.Shelf.Utf8.AppendRunePlain
import Derived.Shelf.Utf8.RuneCount
import Derived.Shelf.Strings.Builder2Cap
import Derived.Shelf.Strconv.Itoa0
import Derived.Shelf.Strings.Search1
import Derived.Shelf.Strings.Search2
import Derived.Shelf.Strings.Search3
import Derived.Shelf.Strings.Count
import Derived.Shelf.LaysM
import Derived.Shelf.Strings.Shaped
import Derived.Shelf.Strings.LastIndex
import Derived.Shelf.Strings.LastIndexAll
import Derived.Shelf.Strings.Prefix
import Derived.Shelf.Strings.Split
import Derived.Shelf.Strings.SplitShaped
import Derived.Shelf.Unicode.Decode
import Derived.Shelf.Strings.Runes
import Derived.Shelf.Strings.RuneCount
import Derived.Shelf.Strings.IndexAny
import Derived.Shelf.Strings.AsciiSet
import Derived.Shelf.Strings.IndexAnyAll
import Derived.Shelf.Strings.Explode
import Derived.Shelf.Bits.Mul64
import Derived.Shelf.Strings.Repeat
import Derived.Shelf.Unicode.DecodeSlow
import Derived.Shelf.Unicode.DecodeAny
import Derived.Shelf.Strings.BuilderCap
import Derived.Test.YtlfinljfghhpdaaGreatDoorProg
set_option linter.unusedVariables false
set_option linter.unusedSimpArgs false
set_option maxRecDepth 100000
set_option maxHeartbeats 200000
namespace Go.Proofs.YtlfinljfghhpdaaGreatDoor
open Go Go.RowKit
theorem ZaE (a:Addr)(n:Nat):(a.add n).block=a.block:=by unfold Addr.add;split<;>rfl
def Reads (w:World)(B size:Nat)(A:Option Addr)(n:Nat)(xs:List Value):Prop:=
 xs.length=n*size∧(0<n→∃ad,A=some ad∧ad.block<B∧∀j u,xs[j]? =some u→w.cell? (ad.add j)=some u)
section
variable {w w':World} {B B' size n:Nat} {A:Option Addr} {xs:List Value}
theorem Reads.none_:Reads w B size A 0 []:=⟨by simp,fun h=>absurd h (by omega)⟩
theorem Reads.at_ {k:Nat} (h:Reads w B 1 A n xs)(hk:k<n):∃ad u,A=some ad∧ad.block<B∧xs[k]? =some u∧w.cell? (ad.add k)=some u:=by
 obtain⟨ad,e,hb,hc⟩:=h.2 (by omega);have hl:k<xs.length:=by have:=h.1;omega
 exact⟨ad,xs[k],e,hb,List.getElem?_eq_getElem hl,hc k _ (List.getElem?_eq_getElem hl)⟩
theorem Reads.keep (h:Reads w B size A n xs)(hk:∀p:Addr,p.block<B→w'.cell? p=w.cell? p):Reads w' B size A n xs:=
 ⟨h.1,fun hn=>by
  obtain⟨ad,e,hb,hc⟩:=h.2 hn;exact⟨ad,e,hb,fun j u hu=>(hk _ (by rw [ZaE];exact hb)).trans (hc j u hu)⟩⟩
theorem Reads.more (h:Reads w B size A n xs)(hB:B≤B'):Reads w B' size A n xs:=
 ⟨h.1,fun hn=>by
  obtain⟨ad,e,hb,hc⟩:=h.2 hn;exact⟨ad,e,by omega,hc⟩⟩
theorem Reads.below (h:Reads w B size A n xs)(hb:Below B w w'):Reads w' B size A n xs:=h.keep fun _ hp=>hb.cell hp
theorem Reads.of_own {base:Nat} {e:TypeId} {v:Value} (h:w.ownsRow base e size v n xs):∃A c,v= .slice A n c∧n≤c∧Reads w w.heap.size size A n xs:=by
 rcases h.2 with⟨rfl,rfl⟩|⟨g,cap,cur,rfl,hb,hg,hnc,hcm,hcs,htake⟩
 · have hx:xs=[]:=List.eq_nil_of_length_eq_zero (by simpa using h.1);subst hx;exact⟨none,0,rfl,Nat.le_refl _,.none_⟩
 · refine⟨_,_,rfl,hnc,h.1,fun _=>⟨_,rfl,?_,h.cells (g:=g) rfl⟩⟩;exact(Array.getElem?_eq_some_iff.1 hg).1
end
def ZA (w:World)(B:Nat)(k:IntKind)(A:Option Addr)(zs:List Int):Prop:=Reads w B 1 A zs.length (zs.map (Value.int k))
section
variable {w w':World} {B:Nat} {k:IntKind} {A:Option Addr} {zs:List Int}
theorem ZA.below (h:ZA w B k A zs)(hb:Below B w w'):ZA w' B k A zs:=Reads.below h hb
theorem ZA.more {B':Nat} (h:ZA w B k A zs)(hb:B≤B'):ZA w B' k A zs:=Reads.more h hb
theorem ZA.at_ {i:Nat} (h:ZA w B k A zs)(hi:i<zs.length):∃ad,A=some ad∧ad.block<B∧w.cell? (ad.add i)=some (.int k (zs.getD i 0)):=by
 obtain⟨ad,u,e,hb,hu,hc⟩:=Reads.at_ h hi;refine⟨ad,e,hb,?_⟩;rw [hc];have:(zs.map (Value.int k))[i]? =some (.int k (zs.getD i 0)):=by simp [List.getD,hi]
 rw [←hu,this]
theorem ZA.of_own {base:Nat} {e:TypeId} {v:Value} {n:Nat} (h:w.ownsRow base e 1 v n (zs.map (Value.int k))):∃A c,v= .slice A zs.length c∧zs.length≤c∧n=zs.length∧ZA w w.heap.size k A zs:=by
 have hn:n=zs.length:=by simpa using h.1.symm
 subst hn;obtain⟨A,c,hv,hc,hr⟩:=Reads.of_own h;exact⟨A,c,hv,hc,rfl,hr⟩
end
theorem Zd9 {a b:Bool} (h:a=b):Ending.returned (.bool a)= .returned (.bool b):=by rw [h]
theorem Za4 {k:IntKind} {a b:Int} (h:a=b):Ending.returned (.int k a)= .returned (.int k b):=by rw [h]
theorem Zth {a b:ByteArray} (h:a=b):Ending.returned (.string a)= .returned (.string b):=by rw [h]
theorem bcell {W w1:World} (hb:Below W.heap.size W w1):(∀b o,b<W.heap.size→w1.cell? ⟨b,o,none⟩=W.cell? ⟨b,o,none⟩)∧(∀b o,b<W.heap.size→w1.frozen? ⟨b,o,none⟩=W.frozen? ⟨b,o,none⟩):=
 ⟨fun b o h=>hb.cell (p:=⟨b,o,none⟩) h,fun b o h=>hb.frozen (p:=⟨b,o,none⟩) h⟩
theorem below_drewN {B:Nat} {a w:World} (h:Below B a w)(n:Nat):Below B a (w.drewN n):=⟨h.os,h.tape,h.output,h.size,h.block⟩
theorem Z3 {B base:Nat} {e:TypeId} {size n:Nat} {v:Value} {xs:List Value} {a w w':World} (h:Below B a w)(hown:w.ownsRow base e size v n xs)(hg:w.grownBy w' v.ownBlock)(hB:B≤w.heap.size)(hb:B≤base):Below B a w':=
 h.grown hg hB fun k hk=>by have:=(hown.lt k hk).1;omega
theorem Zf {w w1:World} {o:Obj} (h:Below (w.alloc o).heap.size (w.alloc o) w1):Below w.heap.size w w1:=
 ((Below.refl _ _).alloc (Nat.le_refl _) _).trans (h.mono (by simp))
theorem Zqv {w w1:World} {o o':Obj} (h:Below ((w.alloc o).alloc o').heap.size ((w.alloc o).alloc o') w1):Below w.heap.size w w1:=Zf (Zf h)
theorem Zt {w w1:World} {base:Nat} {e:TypeId} {size:Nat} {v:Value} {n:Nat} {xs:List Value} (h:w.ownsRow base e size v n xs)(hb:Below w.heap.size w w1):w1.ownsRow base e size v n xs:=
 h.kept (row:=none) ⟨hb.os,hb.tape,hb.output,hb.size,fun k hk _=>hb.block k hk⟩ (by cases v.ownBlock<;>simp)
theorem Zag {w w1:World} {o:Obj} (h:Below (w.alloc o).heap.size (w.alloc o) w1):w.heap.size+1≤w1.heap.size:=by
 have:=h.size;simpa using this
theorem Zbu {w wr:World} {T:TypeId} {a b:Value} (hb:Below (w.heap.size+1) (w.alloc (.cells #[a,b] T)) wr):
 wr.cell? ⟨w.heap.size,0,none⟩=some a∧wr.cell? ⟨w.heap.size,1,none⟩=some b∧wr.frozen? ⟨w.heap.size,0,none⟩=false∧wr.frozen? ⟨w.heap.size,1,none⟩=false∧w.heap.size<wr.heap.size:=by
 have h1:=hb.size;simp only [World.size_alloc] at h1;have hl:w.heap.size<w.heap.size+1:=Nat.lt_succ_self _;have e:=heap_alloc_new w (.cells #[a,b] T);refine⟨?_,?_,?_,?_,by omega⟩
 · rw [hb.cell (p:=⟨w.heap.size,0,none⟩) hl,cell_of_row _ w.heap.size 0 _ T (0,0) e];rfl
 · rw [hb.cell (p:=⟨w.heap.size,1,none⟩) hl,cell_of_row _ w.heap.size 1 _ T (0,0) e];rfl
 · rw [hb.frozen (p:=⟨w.heap.size,0,none⟩) hl,frozen_of_row _ w.heap.size 0 _ T e]
 · rw [hb.frozen (p:=⟨w.heap.size,1,none⟩) hl,frozen_of_row _ w.heap.size 1 _ T e]
section
variable {P:Program}
theorem ZdO (src dst e:TypeId)(hs:P.underlying src=some (.slice e))(he:P.underlying e=some (.int .u8))(hd:P.underlying dst=some .string)(w:World){B:Nat} {A:Option Addr} {zs:List Int} (h:ZA w B .u8 A zs)(c:Nat):
 (convert src dst (.slice A zs.length c)).run P w= .ok (.string (strOfNums zs)) w:=by
 by_cases h0:0<zs.length
 · obtain⟨ad,rfl,_,hc⟩:=h.2 h0;have hl:(loadCells ad zs.length).run P w= .ok (zs.map (Value.int .u8)).toArray w:=by
    have:=run_loadCells_list (P:=P) w ad (zs.map (Value.int .u8)) hc;simpa using this
   rw [run_convert_bytes_string w src dst e _ _ c hs he hd,run_bytesToString w _ _ c zs hl,foldl_push_bytes];simp [strOfNums,ByteArray.empty,ByteArray.emptyWithCapacity];rfl
 · have hz:zs=[]:=List.eq_nil_of_length_eq_zero (by omega);subst hz;rw [run_convert_bytes_string w src dst e _ _ c hs he hd];cases A with
   |none=>simp [Conv.bytesToString,strOfNums];rfl
   |some ad=>
    have hl:(loadCells ad 0).run P w= .ok ([].map (Value.int .u8)).toArray w:=run_loadCells_list (P:=P) w ad [] (by simp);rw [show(([]:List Int).length)=0 from rfl,run_bytesToString w ad 0 c [] hl];simp [strOfNums,ByteArray.empty,ByteArray.emptyWithCapacity];rfl
theorem ZdP (src dst e:TypeId)(hs:P.underlying src=some (.slice e))(he:P.underlying e=some (.int .u8))(hd:P.underlying dst=some .string)(w:World){base:Nat} {v:Value} {n:Nat} {zs:List Int} (h:w.ownsRow base e 1 v n (zs.map (Value.int .u8))):
 (convert src dst v).run P w= .ok (.string (strOfNums zs)) w:=by
 obtain⟨A,c,rfl,_,_,hn⟩:=ZA.of_own h;exact ZdO src dst e hs he hd w hn c
theorem Zc1 (w:World)(e:TypeId)(zs:List Int)(k:IntKind):ZA (w.alloc (.cells (zs.map (Value.int k)).toArray e)) (w.heap.size+1) k (some ⟨w.heap.size,0,none⟩) zs:=by
 refine⟨by simp,fun _=>⟨_,rfl,by simp,fun j u hu=> ?_⟩⟩;have hadd:(⟨w.heap.size,0,none⟩:Addr).add j=⟨w.heap.size,j,none⟩:=by unfold Addr.add;split<;>simp_all
 rw [hadd,cell_of_row _ w.heap.size j _ e (0,0) (heap_alloc_new w _)];simpa using hu
variable (src dst e:TypeId)(hs:P.underlying src=some (.slice e))(he:P.underlying e=some (.int .u8))(hd:P.underlying dst=some .string)
include hs he hd
theorem Zg6 (w:World)(a:Int)(c:Nat):(convert src dst (.slice (some ⟨w.heap.size,0,none⟩) 1 c)).run P (w.alloc (.cells #[.int .u8 a] e))= .ok (.string (strOfNums [a])) (w.alloc (.cells #[.int .u8 a] e)):=
 ZdO src dst e hs he hd _ (Zc1 w e [a] .u8) c
theorem ZcA (w:World)(a b:Int)(c:Nat):(convert src dst (.slice (some ⟨w.heap.size,0,none⟩) 2 c)).run P (w.alloc (.cells #[.int .u8 a,.int .u8 b] e))= .ok (.string (strOfNums [a,b])) (w.alloc (.cells #[.int .u8 a,.int .u8 b] e)):=
 ZdO src dst e hs he hd _ (Zc1 w e [a,b] .u8) c
theorem conv3 (w:World)(a b d:Int)(c:Nat):(convert src dst (.slice (some ⟨w.heap.size,0,none⟩) 3 c)).run P (w.alloc (.cells #[.int .u8 a,.int .u8 b,.int .u8 d] e))= .ok (.string (strOfNums [a,b,d])) (w.alloc (.cells #[.int .u8 a,.int .u8 b,.int .u8 d] e)):=
 ZdO src dst e hs he hd _ (Zc1 w e [a,b,d] .u8) c
theorem conv4 (w:World)(a b d f:Int)(c:Nat):(convert src dst (.slice (some ⟨w.heap.size,0,none⟩) 4 c)).run P (w.alloc (.cells #[.int .u8 a,.int .u8 b,.int .u8 d,.int .u8 f] e))= .ok (.string (strOfNums [a,b,d,f])) (w.alloc (.cells #[.int .u8 a,.int .u8 b,.int .u8 d,.int .u8 f] e)):=
 ZdO src dst e hs he hd _ (Zc1 w e [a,b,d,f] .u8) c
end
theorem Zt7 (p:Int):strOfNums (Lib.encodeRuneZ p)=⟨(Lib.encodeRune p).toArray⟩:=by
 unfold strOfNums Lib.encodeRune;congr 1
end Go.Proofs.YtlfinljfghhpdaaGreatDoor
namespace Go.Proofs.YtlfinljfghhpdaaGreatDoor
open Go
def Ze (p:Int):Bool:=decide (0≤p∧p≤1114111∧(p<55296∨57343<p))
theorem Z1 {p:Int}:Ze p=true↔(0≤p∧p≤1114111∧(p<55296∨57343<p)):=by simp [Ze]
def Zb (ps:List Int):List UInt8:=ps.flatMap Lib.encodeRune
def Zu (l:List UInt8):Nat×Nat:=Lib.decodeN l.length (l.getD 0 0).toNat (l.getD 1 0).toNat (l.getD 2 0).toNat (l.getD 3 0).toNat
def ZaF (d:Nat×Nat):Prop:=d.1=65533∧d.2≤1
instance (d:Nat×Nat):Decidable (ZaF d):=inferInstanceAs (Decidable (_∧_))
theorem ZbE:Zb []=[]:=rfl
theorem ZaG (p:Int)(ps:List Int):Zb (p::ps)=Lib.encodeRune p++Zb ps:=rfl
theorem ZcK (a b:List Int):Zb (a++b)=Zb a++Zb b:=by simp [Zb]
theorem ZeR (a:List Int)(p:Int):Zb (a++[p])=Zb a++Lib.encodeRune p:=by simp [Zb]
theorem ZfB (s:ByteArray)(i:Nat):s.get! i=s.data.toList.getD i 0:=by
 by_cases h:i<s.size
 · have:s.get! i=s.data[i]'h:=by simp [ByteArray.get!,getElem!_pos,h]
   rw [this];have h2:i<s.data.toList.length:=by simpa using h
   simp [List.getD,List.getElem?_eq_getElem h2]
 · have h3:s.data.size≤i:=by simpa using h
   have:s.get! i=default:=by
    have e:¬i<s.data.size:=by omega
    simp only [ByteArray.get!,getElem!_def,Array.getElem?_eq_none h3]
   rw [this];have h2:s.data.toList.length≤i:=by simpa using h
   simp [List.getD,List.getElem?_eq_none h2];rfl
theorem Zhd (s:ByteArray)(i:Nat):Utf8.decode s i=Zu (s.data.toList.drop i):=by
 have hl:(s.data.toList.drop i).length=s.size - i:=by simp
 have hg:∀j,(s.data.toList.drop i).getD j 0=s.data.toList.getD (i+j) 0:=by
  intro j;simp [List.getD,List.getElem?_drop]
 rw [Lib.decode_at,Zu,hl,hg 0,hg 1,hg 2,hg 3,ZfB,ZfB,ZfB,ZfB];rfl
theorem Z9 (n:Int)(h0:0≤n)(h1:n<256):(n.toNat.toUInt8).toNat=n.toNat:=by
 have:=h0;simp [Nat.toUInt8,UInt8.toNat_ofNat'];omega
theorem ZbY {p:Int} (h0:0≤p)(h1:p≤127):Lib.encodeRune p=[p.toNat.toUInt8]:=by
 simp [Lib.encodeRune,Lib.encodeRuneZ_one h0 h1]
theorem ZcE {p:Int} (h0:128≤p)(h1:p≤2047):Lib.encodeRune p=[(192+p / 64).toNat.toUInt8,(128+p % 64).toNat.toUInt8]:=by
 simp [Lib.encodeRune,Lib.encodeRuneZ_two h0 h1]
theorem ZcD {p:Int} (h:(2048≤p∧p<55296)∨(57343<p∧p≤65535)):Lib.encodeRune p=[(224+p / 4096).toNat.toUInt8,(128+p / 64 % 64).toNat.toUInt8,(128+p % 64).toNat.toUInt8]:=by
 simp [Lib.encodeRune,Lib.encodeRuneZ_three h]
theorem ZcC {p:Int} (h0:65536≤p)(h1:p≤1114111):Lib.encodeRune p=[(240+p / 262144).toNat.toUInt8,(128+p / 4096 % 64).toNat.toUInt8,(128+p / 64 % 64).toNat.toUInt8,(128+p % 64).toNat.toUInt8]:=by
 simp [Lib.encodeRune,Lib.encodeRuneZ_four h0 h1]
theorem Zbx (p:Int):1≤(Lib.encodeRune p).length∧(Lib.encodeRune p).length≤4:=by
 have:=Lib.encodeRuneZ_length p;simpa [Lib.encodeRune] using this
theorem Zhh (p:Int):Lib.encodeRune p≠[]:=by
 intro h;have h1:=(Zbx p).1;rw [h] at h1;simp at h1
theorem Zdn {p:Int} (h:Ze p=true):(0≤p∧p≤127)∨(128≤p∧p≤2047)∨((2048≤p∧p<55296)∨(57343<p∧p≤65535))∨(65536≤p∧p≤1114111):=by
 rw [Z1] at h;omega
theorem ZdR {p:Int} (h:Ze p=true)(t:List UInt8):Zu (Lib.encodeRune p++t)=(p.toNat,(Lib.encodeRune p).length):=by
 rcases Zdn h with⟨h0,h1⟩|⟨h0,h1⟩|h3|⟨h0,h1⟩
 · rw [ZbY h0 h1];simp only [Zu,List.cons_append,List.nil_append,List.getD_cons_zero,Z9 p h0 (by omega),List.length_cons,List.length_nil];unfold Lib.decodeN;rw [if_pos (by omega)]
 · rw [ZcE h0 h1];simp only [Zu,List.cons_append,List.nil_append,List.getD_cons_zero,List.getD_cons_succ,Z9 (192+p / 64) (by omega) (by omega),Z9 (128+p % 64) (by omega) (by omega),List.length_cons,List.length_nil];unfold Lib.decodeN;rw [if_neg (by omega),if_pos (by omega),if_pos (by omega)];exact Prod.ext (by simp only;omega) rfl
 · rw [ZcD h3];simp only [Zu,List.cons_append,List.nil_append,List.getD_cons_zero,List.getD_cons_succ,Z9 (224+p / 4096) (by omega) (by omega),Z9 (128+p / 64 % 64) (by omega) (by omega),Z9 (128+p % 64) (by omega) (by omega),List.length_cons,List.length_nil];unfold Lib.decodeN;rw [if_neg (by omega),if_neg (by omega),if_pos (by omega),if_pos (by omega)];exact Prod.ext (by simp only;omega) rfl
 · rw [ZcC h0 h1];simp only [Zu,List.cons_append,List.nil_append,List.getD_cons_zero,List.getD_cons_succ,Z9 (240+p / 262144) (by omega) (by omega),Z9 (128+p / 4096 % 64) (by omega) (by omega),Z9 (128+p / 64 % 64) (by omega) (by omega),Z9 (128+p % 64) (by omega) (by omega),List.length_cons,List.length_nil];unfold Lib.decodeN;rw [if_neg (by omega),if_neg (by omega),if_neg (by omega),if_pos (by omega),if_pos (by omega)];exact Prod.ext (by simp only;omega) rfl
theorem ZfQ {p:Int} (h:Ze p=true)(t:List UInt8):¬ZaF (Zu (Lib.encodeRune p++t)):=by
 rw [ZdR h];rintro⟨h1,h2⟩;have hp:p=65533:=by
  rw [Z1] at h;simp only at h1;omega
 subst hp
 revert h2
 decide
theorem Z6 {b:UInt8} {n:Int} (h:n=(b.toNat:Int)):n.toNat.toUInt8=b:=by
 subst h;simp [Nat.toUInt8]
theorem Zq4 {l:List UInt8} (hl:l≠[])(he:¬ZaF (Zu l)):∃t,l=Lib.encodeRune ((Zu l).1:Int)++t∧Ze ((Zu l).1:Int)=true∧(Lib.encodeRune ((Zu l).1:Int)).length=(Zu l).2:=by
 match l,hl with
 |b0::r,_=>
  have k0:=b0.toNat_lt
  revert he
  simp only [Zu,List.getD_cons_zero,List.getD_cons_succ,List.length_cons];unfold Lib.decodeN;by_cases c0:b0.toNat<128
  · rw [if_pos c0];intro _;refine⟨r,?_,by rw [Z1];simp only;omega,by rw [ZbY (by simp only;omega) (by simp only;omega)];rfl⟩;rw [ZbY (by simp only;omega) (by simp only;omega)];simp only [List.cons_append,List.nil_append,List.cons.injEq,and_true];exact(Z6 rfl).symm
  rw [if_neg c0];have hlen:∀n,(n<r.length+1)=(n≤r.length):=fun n=>propext Nat.lt_succ_iff;simp only [hlen];by_cases c1:b0.toNat / 32=6∧1≤r.length∧(r.getD 0 0).toNat / 64=2
  · rw [if_pos c1];obtain⟨d0,d1,d2⟩:=c1
    match r,d1,d2 with
    |b1::r,_,d2=>
     have k1:=b1.toNat_lt;simp only [List.getD_cons_zero] at d2⊢;split
     · rename_i e
       intro _;have hr:(128:Int)≤((b0.toNat % 32*64+b1.toNat % 64:Nat):Int)∧((b0.toNat % 32*64+b1.toNat % 64:Nat):Int)≤2047:=by omega
       refine⟨r,?_,by rw [Z1];simp only;omega,by rw [ZcE hr.1 hr.2];rfl⟩;rw [ZcE hr.1 hr.2];simp only [List.cons_append,List.nil_append,List.cons.injEq,and_true];exact⟨(Z6 (by omega)).symm,(Z6 (by omega)).symm⟩
     · intro he;exact absurd ⟨rfl,Nat.le_refl 1⟩ he
  rw [if_neg c1];by_cases c2:b0.toNat / 16=14∧(1≤r.length∧(r.getD 0 0).toNat / 64=2)∧(2≤r.length∧(r.getD 1 0).toNat / 64=2)
  · rw [if_pos c2];obtain⟨d0,⟨_,d2⟩,d3,d4⟩:=c2
    match r,d3,d2,d4 with
    |b1::b2::r,_,d2,d4=>
     have k1:=b1.toNat_lt;have k2:=b2.toNat_lt;simp only [List.getD_cons_zero,List.getD_cons_succ] at d2 d4⊢;split
     · rename_i e
       intro _;have hr:(2048≤((b0.toNat % 16*4096+b1.toNat % 64*64+b2.toNat % 64:Nat):Int)∧((b0.toNat % 16*4096+b1.toNat % 64*64+b2.toNat % 64:Nat):Int)<55296)∨(57343<((b0.toNat % 16*4096+b1.toNat % 64*64+b2.toNat % 64:Nat):Int)∧((b0.toNat % 16*4096+b1.toNat % 64*64+b2.toNat % 64:Nat):Int)≤65535):=by omega
       refine⟨r,?_,by rw [Z1];simp only;omega,by rw [ZcD hr];rfl⟩;rw [ZcD hr];simp only [List.cons_append,List.nil_append,List.cons.injEq,and_true];exact⟨(Z6 (by omega)).symm,(Z6 (by omega)).symm,(Z6 (by omega)).symm⟩
     · intro he;exact absurd ⟨rfl,Nat.le_refl 1⟩ he
  rw [if_neg c2];by_cases c3:b0.toNat / 8=30∧(1≤r.length∧(r.getD 0 0).toNat / 64=2)∧(2≤r.length∧(r.getD 1 0).toNat / 64=2)∧(3≤r.length∧(r.getD 2 0).toNat / 64=2)
  · rw [if_pos c3];obtain⟨d0,⟨_,d2⟩,⟨_,d4⟩,d5,d6⟩:=c3
    match r,d5,d2,d4,d6 with
    |b1::b2::b3::r,_,d2,d4,d6=>
     have k1:=b1.toNat_lt;have k2:=b2.toNat_lt;have k3:=b3.toNat_lt;simp only [List.getD_cons_zero,List.getD_cons_succ] at d2 d4 d6⊢;split
     · rename_i e
       intro _;have hr:(65536:Int)≤((b0.toNat % 8*262144+b1.toNat % 64*4096+b2.toNat % 64*64+b3.toNat % 64:Nat):Int)∧((b0.toNat % 8*262144+b1.toNat % 64*4096+b2.toNat % 64*64+b3.toNat % 64:Nat):Int)≤1114111:=by omega
       refine⟨r,?_,by rw [Z1];simp only;omega,by rw [ZcC hr.1 hr.2];rfl⟩;rw [ZcC hr.1 hr.2];simp only [List.cons_append,List.nil_append,List.cons.injEq,and_true];exact⟨(Z6 (by omega)).symm,(Z6 (by omega)).symm,(Z6 (by omega)).symm,(Z6 (by omega)).symm⟩
     · intro he;exact absurd ⟨rfl,Nat.le_refl 1⟩ he
  rw [if_neg c3];intro he;exact absurd ⟨rfl,Nat.le_refl 1⟩ he
def Good (s:ByteArray)(ps:List Int):Prop:=s.data.toList=Zb ps∧∀p∈ps,Ze p=true
def Zbr (s:ByteArray)(n:Nat):Prop:=∃ps r,s.data.toList=Zb ps++r∧(∀p∈ps,Ze p=true)∧n=(Zb ps).length∧r≠[]∧ZaF (Zu r)
theorem Zng:∀n (l:List UInt8),l.length≤n→∃ps r,l=Zb ps++r∧(∀p∈ps,Ze p=true)∧(r=[]∨ZaF (Zu r))
 |0,l,h=>⟨[],[],by simpa [ZbE] using h,by simp,.inl rfl⟩
 |n+1,l,h=>by
  by_cases h0:l=[]
  · exact⟨[],[],by simpa [ZbE] using h0,by simp,.inl rfl⟩
  by_cases he:ZaF (Zu l)
  · exact⟨[],l,by simp [ZbE],by simp,.inr he⟩
  obtain⟨t,ht,hs,_⟩:=Zq4 h0 he;have hlt:t.length≤n:=by
   have h1:=congrArg List.length ht;rw [List.length_append] at h1;have:=(Zbx ((Zu l).1:Int)).1;omega
  obtain⟨ps,r,h1,h2,h3⟩:=Zng n t hlt;refine⟨((Zu l).1:Int)::ps,r,?_,?_,h3⟩
  · rw [ZaG,List.append_assoc,←h1];exact ht
  · intro p hp;rcases List.mem_cons.1 hp with rfl|hp
    · exact hs
    · exact h2 p hp
theorem ZrJ (s:ByteArray):(∃ps,Good s ps)∨∃n,Zbr s n:=by
 obtain⟨ps,r,h1,h2,h3⟩:=Zng _ s.data.toList (Nat.le_refl _);rcases h3 with rfl|h3
 · exact .inl ⟨ps,by simpa using h1,h2⟩
 · by_cases hr:r=[]
   · subst hr;exact .inl ⟨ps,by simpa using h1,h2⟩
   · exact .inr ⟨_,ps,r,h1,h2,rfl,hr,h3⟩
theorem Zdp {ps:List Int} (h:∀p∈ps,Ze p=true):Good ⟨(Zb ps).toArray⟩ ps:=⟨by simp,h⟩
theorem Good.size {s:ByteArray} {ps:List Int} (h:Good s ps):s.size=(Zb ps).length:=by
 rw [←h.1];simp
theorem Zah (ps:List Int):ps.length≤(Zb ps).length∧(Zb ps).length≤4*ps.length:=by
 induction ps with
 |nil=>simp [ZbE]
 |cons p ps ih=>
  have:=Zbx p;rw [ZaG,List.length_append,List.length_cons];omega
theorem Good.len {s:ByteArray} {ps:List Int} (h:Good s ps):ps.length≤s.size:=by
 rw [h.size];exact(Zah ps).1
end Go.Proofs.YtlfinljfghhpdaaGreatDoor
namespace Go.Proofs
open Go.Shelf
open Go.RowKit in
open Go.RowKit in
open Go.RowKit in
open Go.RowKit in
open Go.RowKit in
open Go.RowKit in
def Tryz.lays156_ren:Go.Shelf.Ren:=⟨fun|156=>166|165=>246|166=>247|169=>248|240=>317|241=>318|276=>362|277=>363|n=>n,fun|31=>29|9=>9|3=>3|4=>4|0=>0|20=>20|72=>290|76=>294|70=>288|37=>79|75=>293|127=>343|164=>370|5=>5|80=>149|n=>n,fun|n=>n⟩
theorem Tryz.lays156:Go.Proofs.Lays.n156 Tryz.prog Tryz.lays156_ren:={
 mixed:=by kernel_rfl
 f156:=Tryz.func166.trans (congrArg some (by kernel_rfl))
 f165:=Tryz.func246.trans (congrArg some (by kernel_rfl))
 f166:=Tryz.func247.trans (congrArg some (by kernel_rfl))
 f169:=Tryz.func248.trans (congrArg some (by kernel_rfl))
 f240:=Tryz.func317.trans (congrArg some (by kernel_rfl))
 f241:=Tryz.func318.trans (congrArg some (by kernel_rfl))
 f276:=Tryz.func362.trans (congrArg some (by kernel_rfl))
 f277:=Tryz.func363.trans (congrArg some (by kernel_rfl))
 t0:=Tryz.underlying0
 a0:=Tryz.isAgg0
 z0:=Tryz.sizeOf0
 v0:=Tryz.zeroValue0
 t3:=Tryz.underlying3
 a3:=Tryz.isAgg3
 z3:=Tryz.sizeOf3
 v3:=Tryz.zeroValue3
 t4:=Tryz.underlying4
 a4:=Tryz.isAgg4
 z4:=Tryz.sizeOf4
 v4:=Tryz.zeroValue4
 t9:=Tryz.underlying9
 a9:=Tryz.isAgg9
 z9:=Tryz.sizeOf9
 v9:=Tryz.zeroValue9
 t20:=Tryz.underlying20
 a20:=Tryz.isAgg20
 z20:=Tryz.sizeOf20
 v20:=Tryz.zeroValue20
 t31:=Tryz.underlying29
 a31:=Tryz.isAgg29
 z31:=Tryz.sizeOf29
 v31:=Tryz.zeroValue29
 t37:=Tryz.underlying79
 a37:=Tryz.isAgg79
 z37:=Tryz.sizeOf79
 v37:=Tryz.zeroValue79
 t70:=Tryz.underlying288
 a70:=Tryz.isAgg288
 z70:=Tryz.sizeOf288
 v70:=Tryz.zeroValue288
 t72:=Tryz.underlying290
 a72:=Tryz.isAgg290
 z72:=Tryz.sizeOf290
 v72:=Tryz.zeroValue290
 t75:=Tryz.underlying293
 a75:=Tryz.isAgg293
 z75:=Tryz.sizeOf293
 v75:=Tryz.zeroValue293
 t76:=Tryz.underlying294
 a76:=Tryz.isAgg294
 z76:=Tryz.sizeOf294
 v76:=Tryz.zeroValue294
 t127:=Tryz.underlying343
 a127:=Tryz.isAgg343
 z127:=Tryz.sizeOf343
 v127:=Tryz.zeroValue343
 t164:=Tryz.underlying370
 a164:=Tryz.isAgg370
 z164:=Tryz.sizeOf370
 v164:=Tryz.zeroValue370}
theorem Tryz.Builder_Extra_156:Builder.Extra Tryz.prog Tryz.lays156_ren:={
 sizeBuilder:=by kernel_rfl
 liesBuilder:=by kernel_rfl
 t5:=Tryz.underlying5
 a5:=Tryz.isAgg5
 z5:=Tryz.sizeOf5
 v5:=Tryz.zeroValue5
 infoByte:=by kernel_rfl
 cellsByte:=by kernel_rfl
 sizeByte:=by kernel_rfl
 neB5:=by decide}
open Go.RowKit in
theorem Tryz.strings_Join_none (a:Option Addr)(c:Nat)(sep:ByteArray)(w:World):
 Calls Tryz.prog 166 #[.slice a 0 c,.string sep] w fun e w'=>e= .returned (.string ⟨#[]⟩)∧w'=w:=Any.strings_Join_none Tryz.lays156 Tryz.Builder_Extra_156 a c sep w
open Go.RowKit in
theorem Tryz.strings_Join (bk o c:Nat)(xs:List ByteArray)(sep:ByteArray)(w:World)(hcells:∀(j:Nat) x,xs[j]? =some x→w.cell? ⟨bk,o+j,none⟩=some (.string x))(hbk:bk<w.heap.size)(hN:xs.length≤140737488355328)(hcap:xs.length≤c)(hlen:(Lib.join (xs.map (·.data.toList)) sep.data.toList).length≤140737488355328):
 Calls Tryz.prog 166 #[.slice (some ⟨bk,o,none⟩) xs.length c,.string sep] w fun e w'=>e= .returned (.string ⟨(Lib.join (xs.map (·.data.toList)) sep.data.toList).toArray⟩)∧Below w.heap.size w w':=Any.strings_Join Tryz.lays156 Tryz.Builder_Extra_156 bk o c xs sep w hcells hbk hN hcap hlen
open Go.RowKit in
open Go.RowKit in
def Tryz.lays161_ren:Go.Shelf.Ren:=⟨fun|161=>121|231=>206|227=>208|233=>209|235=>211|228=>215|197=>287|151=>288|260=>337|152=>213|137=>290|119=>291|224=>292|225=>293|217=>339|266=>379|n=>n,fun|9=>9|4=>4|3=>3|5=>5|117=>248|116=>247|0=>0|124=>251|105=>45|21=>21|119=>298|46=>203|139=>301|138=>300|n=>n,fun|3=>1|4=>2|n=>n⟩
theorem Tryz.lays161:Go.Proofs.Lays.n161 Tryz.prog Tryz.lays161_ren:={
 mixed:=by kernel_rfl
 f119:=Tryz.func291.trans (congrArg some (by kernel_rfl))
 f137:=Tryz.func290.trans (congrArg some (by kernel_rfl))
 f151:=Tryz.func288.trans (congrArg some (by kernel_rfl))
 f152:=Tryz.func213.trans (congrArg some (by kernel_rfl))
 f161:=Tryz.func121.trans (congrArg some (by kernel_rfl))
 f197:=Tryz.func287.trans (congrArg some (by kernel_rfl))
 f217:=Tryz.func339.trans (congrArg some (by kernel_rfl))
 f224:=Tryz.func292.trans (congrArg some (by kernel_rfl))
 f225:=Tryz.func293.trans (congrArg some (by kernel_rfl))
 f227:=Tryz.func208.trans (congrArg some (by kernel_rfl))
 f228:=Tryz.func215.trans (congrArg some (by kernel_rfl))
 f231:=Tryz.func206.trans (congrArg some (by kernel_rfl))
 f233:=Tryz.func209.trans (congrArg some (by kernel_rfl))
 f235:=Tryz.func211.trans (congrArg some (by kernel_rfl))
 f260:=Tryz.func337.trans (congrArg some (by kernel_rfl))
 f266:=Tryz.func379.trans (congrArg some (by kernel_rfl))
 t0:=Tryz.underlying0
 a0:=Tryz.isAgg0
 z0:=Tryz.sizeOf0
 v0:=Tryz.zeroValue0
 t3:=Tryz.underlying3
 a3:=Tryz.isAgg3
 z3:=Tryz.sizeOf3
 v3:=Tryz.zeroValue3
 t4:=Tryz.underlying4
 a4:=Tryz.isAgg4
 z4:=Tryz.sizeOf4
 v4:=Tryz.zeroValue4
 t5:=Tryz.underlying5
 a5:=Tryz.isAgg5
 z5:=Tryz.sizeOf5
 v5:=Tryz.zeroValue5
 t9:=Tryz.underlying9
 a9:=Tryz.isAgg9
 z9:=Tryz.sizeOf9
 v9:=Tryz.zeroValue9
 t21:=Tryz.underlying21
 a21:=Tryz.isAgg21
 z21:=Tryz.sizeOf21
 v21:=Tryz.zeroValue21
 t46:=Tryz.underlying203
 a46:=Tryz.isAgg203
 z46:=Tryz.sizeOf203
 v46:=Tryz.zeroValue203
 t105:=Tryz.underlying45
 a105:=Tryz.isAgg45
 z105:=Tryz.sizeOf45
 v105:=Tryz.zeroValue45
 t116:=Tryz.underlying247
 a116:=Tryz.isAgg247
 z116:=Tryz.sizeOf247
 t117:=Tryz.underlying248
 a117:=Tryz.isAgg248
 z117:=Tryz.sizeOf248
 v117:=Tryz.zeroValue248
 t119:=Tryz.underlying298
 a119:=Tryz.isAgg298
 z119:=Tryz.sizeOf298
 t124:=Tryz.underlying251
 a124:=Tryz.isAgg251
 z124:=Tryz.sizeOf251
 v124:=Tryz.zeroValue251
 t138:=Tryz.underlying300
 a138:=Tryz.isAgg300
 z138:=Tryz.sizeOf300
 v138:=Tryz.zeroValue300
 t139:=Tryz.underlying301
 a139:=Tryz.isAgg301
 z139:=Tryz.sizeOf301
 v139:=Tryz.zeroValue301
 g3:=by kernel_rfl
 g4:=by kernel_rfl}
open Go.RowKit in
open Go.RowKit in
def Tryz.lays118_ren:Go.Shelf.Ren:=⟨fun|118=>322|n=>n,fun|21=>21|3=>3|4=>4|n=>n,fun|n=>n⟩
theorem Tryz.lays118:Go.Proofs.Lays.n118 Tryz.prog Tryz.lays118_ren:={
 mixed:=by kernel_rfl
 f118:=Tryz.func322.trans (congrArg some (by kernel_rfl))
 t3:=Tryz.underlying3
 a3:=Tryz.isAgg3
 z3:=Tryz.sizeOf3
 v3:=Tryz.zeroValue3
 t4:=Tryz.underlying4
 a4:=Tryz.isAgg4
 z4:=Tryz.sizeOf4
 v4:=Tryz.zeroValue4
 t21:=Tryz.underlying21
 a21:=Tryz.isAgg21
 z21:=Tryz.sizeOf21
 v21:=Tryz.zeroValue21}
theorem Tryz.utf8_RuneLen (r:Int)(w:World):
 Calls Tryz.prog 322 #[.int .i32 r] w fun e w'=>e= .returned (.int .i64 (Lib.runeLen r))∧w'=w:=Any.utf8_RuneLen Tryz.lays118 r w
def Tryz.lays137_ren:Go.Shelf.Ren:=⟨fun|137=>290|217=>339|266=>379|n=>n,fun|9=>9|5=>5|3=>3|n=>n,fun|n=>n⟩
theorem Tryz.lays137:Go.Proofs.Lays.n137 Tryz.prog Tryz.lays137_ren:={
 mixed:=by kernel_rfl
 f137:=Tryz.func290.trans (congrArg some (by kernel_rfl))
 f217:=Tryz.func339.trans (congrArg some (by kernel_rfl))
 f266:=Tryz.func379.trans (congrArg some (by kernel_rfl))
 t3:=Tryz.underlying3
 a3:=Tryz.isAgg3
 z3:=Tryz.sizeOf3
 v3:=Tryz.zeroValue3
 t5:=Tryz.underlying5
 a5:=Tryz.isAgg5
 z5:=Tryz.sizeOf5
 v5:=Tryz.zeroValue5
 t9:=Tryz.underlying9
 a9:=Tryz.isAgg9
 z9:=Tryz.sizeOf9
 v9:=Tryz.zeroValue9}
open Go.RowKit in
theorem Tryz.strings_IndexByte (s:ByteArray)(c:Int)(w:World):
 Calls Tryz.prog 290 #[.string s,.int .u8 c] w fun e w'=>e= .returned (.int .i64 (Lib.indexByte s.data.toList c.toNat.toUInt8))∧w'=w:=Any.strings_IndexByte Tryz.lays137 s c w
open Go.RowKit in
def Tryz.lays103_ren:Go.Shelf.Ren:=⟨fun|103=>229|210=>295|206=>115|n=>n,fun|9=>9|4=>4|24=>110|3=>3|n=>n,fun|n=>n⟩
theorem Tryz.lays103:Go.Proofs.Lays.n103 Tryz.prog Tryz.lays103_ren:={
 mixed:=by kernel_rfl
 f103:=Tryz.func229.trans (congrArg some (by kernel_rfl))
 f206:=Tryz.func115.trans (congrArg some (by kernel_rfl))
 f210:=Tryz.func295.trans (congrArg some (by kernel_rfl))
 t3:=Tryz.underlying3
 a3:=Tryz.isAgg3
 z3:=Tryz.sizeOf3
 v3:=Tryz.zeroValue3
 t4:=Tryz.underlying4
 a4:=Tryz.isAgg4
 z4:=Tryz.sizeOf4
 v4:=Tryz.zeroValue4
 t9:=Tryz.underlying9
 a9:=Tryz.isAgg9
 z9:=Tryz.sizeOf9
 v9:=Tryz.zeroValue9
 t24:=Tryz.underlying110
 a24:=Tryz.isAgg110
 z24:=Tryz.sizeOf110
 v24:=Tryz.zeroValue110}
open Go.RowKit in
theorem Tryz.strings_CutPrefix (s p:ByteArray)(w:World):
 Calls Tryz.prog 229 #[.string s,.string p] w fun e w'=>e= .returned (.tuple #[.string ⟨(Lib.trimPrefix s.data.toList p.data.toList).toArray⟩,.bool (Lib.hasPrefix s.data.toList p.data.toList)])∧w'=w:=Any.strings_CutPrefix Tryz.lays103 s p w
open Go.RowKit in
def Tryz.lays104_ren:Go.Shelf.Ren:=⟨fun|104=>230|211=>296|207=>340|n=>n,fun|9=>9|4=>4|24=>110|3=>3|n=>n,fun|n=>n⟩
theorem Tryz.lays104:Go.Proofs.Lays.n104 Tryz.prog Tryz.lays104_ren:={
 mixed:=by kernel_rfl
 f104:=Tryz.func230.trans (congrArg some (by kernel_rfl))
 f207:=Tryz.func340.trans (congrArg some (by kernel_rfl))
 f211:=Tryz.func296.trans (congrArg some (by kernel_rfl))
 t3:=Tryz.underlying3
 a3:=Tryz.isAgg3
 z3:=Tryz.sizeOf3
 v3:=Tryz.zeroValue3
 t4:=Tryz.underlying4
 a4:=Tryz.isAgg4
 z4:=Tryz.sizeOf4
 v4:=Tryz.zeroValue4
 t9:=Tryz.underlying9
 a9:=Tryz.isAgg9
 z9:=Tryz.sizeOf9
 v9:=Tryz.zeroValue9
 t24:=Tryz.underlying110
 a24:=Tryz.isAgg110
 z24:=Tryz.sizeOf110
 v24:=Tryz.zeroValue110}
open Go.RowKit in
theorem Tryz.strings_CutSuffix (s p:ByteArray)(w:World)(hs:s.size≤9223372036854775807):
 Calls Tryz.prog 230 #[.string s,.string p] w fun e w'=>e= .returned (.tuple #[.string ⟨(Lib.trimSuffix s.data.toList p.data.toList).toArray⟩,.bool (Lib.hasSuffix s.data.toList p.data.toList)])∧w'=w:=Any.strings_CutSuffix Tryz.lays104 s p w hs
open Go.RowKit in
def Tryz.lays122_ren:Go.Shelf.Ren:=⟨fun|122=>383|215=>402|n=>n,fun|3=>3|4=>4|n=>n,fun|n=>n⟩
theorem Tryz.lays122:Go.Proofs.Lays.n122 Tryz.prog Tryz.lays122_ren:={
 mixed:=by kernel_rfl
 f122:=Tryz.func383.trans (congrArg some (by kernel_rfl))
 f215:=Tryz.func402.trans (congrArg some (by kernel_rfl))
 t3:=Tryz.underlying3
 a3:=Tryz.isAgg3
 z3:=Tryz.sizeOf3
 v3:=Tryz.zeroValue3
 t4:=Tryz.underlying4
 a4:=Tryz.isAgg4
 z4:=Tryz.sizeOf4
 v4:=Tryz.zeroValue4}
open Go.RowKit in
theorem Tryz.cmp_Compare_int (x y:Int)(w:World):
 Calls Tryz.prog 383 #[.int .i64 x,.int .i64 y] w fun e w'=>e= .returned (.int .i64 (Lib.compareInt x y))∧w'=w:=Any.cmp_Compare_int Tryz.lays122 x y w
open Go.RowKit in
open Go.RowKit in
open Go.RowKit in
open Go.RowKit in
open Go.RowKit in
open Go.RowKit in
open Go.RowKit in
open Go.RowKit in
def Tryz.lays242_ren:Go.Shelf.Ren:=⟨fun|242=>194|278=>283|n=>n,fun|37=>79|21=>21|51=>56|4=>4|5=>5|46=>203|n=>n,fun|n=>n⟩
theorem Tryz.lays242:Go.Proofs.Lays.n242 Tryz.prog Tryz.lays242_ren:={
 mixed:=by kernel_rfl
 f242:=Tryz.func194.trans (congrArg some (by kernel_rfl))
 f278:=Tryz.func283.trans (congrArg some (by kernel_rfl))
 t4:=Tryz.underlying4
 a4:=Tryz.isAgg4
 z4:=Tryz.sizeOf4
 v4:=Tryz.zeroValue4
 t5:=Tryz.underlying5
 a5:=Tryz.isAgg5
 z5:=Tryz.sizeOf5
 v5:=Tryz.zeroValue5
 t21:=Tryz.underlying21
 a21:=Tryz.isAgg21
 z21:=Tryz.sizeOf21
 v21:=Tryz.zeroValue21
 t37:=Tryz.underlying79
 a37:=Tryz.isAgg79
 z37:=Tryz.sizeOf79
 v37:=Tryz.zeroValue79
 t46:=Tryz.underlying203
 a46:=Tryz.isAgg203
 z46:=Tryz.sizeOf203
 v46:=Tryz.zeroValue203
 t51:=Tryz.underlying56
 a51:=Tryz.isAgg56
 z51:=Tryz.sizeOf56
 v51:=Tryz.zeroValue56}
open Go.RowKit in
open Go.RowKit in
open Go.RowKit in
theorem Tryz.utf8_AppendRune_plain (B:Nat)(v:Value)(n:Nat)(xs:List Value)(r:Int)(hr0: -2147483648≤r)(hr1:r≤2147483647)(w:World)(hown:w.ownsRow B 5 1 v n xs)(hlen:n+4≤140737488355328)(hBw:B≤w.heap.size):
 Calls Tryz.prog 194 #[v,.int .i32 r] w fun e w'=>∃v',e= .returned v'∧w'.ownsRow B 5 1 v' (n+(Lib.runeCells r).length) (xs++Lib.runeCells r)∧∃o,(w.alloc o).grownBy w' v.ownBlock:=Any.utf8_AppendRune_plain Tryz.lays242 (by kernel_rfl) B v n xs r hr0 hr1 w hown hlen hBw
open Go.RowKit in
open Go.RowKit in
open Go.RowKit in
open Go.RowKit Go.Lib in
open Go.RowKit Go.Lib in
open Go.RowKit Go.Lib in
open Go.RowKit Go.Lib in
open Go.RowKit Go.Lib in
open Go.RowKit Go.Lib in
def Tryz.lays143_ren:Go.Shelf.Ren:=⟨fun|143=>360|219=>389|217=>339|225=>293|224=>292|267=>407|266=>379|314=>421|n=>n,fun|9=>9|3=>3|4=>4|5=>5|46=>203|146=>350|51=>56|n=>n,fun|1=>3|n=>n⟩
theorem Tryz.lays143:Go.Proofs.Lays.n143 Tryz.prog Tryz.lays143_ren:={
 mixed:=by kernel_rfl
 f143:=Tryz.func360.trans (congrArg some (by kernel_rfl))
 f217:=Tryz.func339.trans (congrArg some (by kernel_rfl))
 f219:=Tryz.func389.trans (congrArg some (by kernel_rfl))
 f224:=Tryz.func292.trans (congrArg some (by kernel_rfl))
 f225:=Tryz.func293.trans (congrArg some (by kernel_rfl))
 f266:=Tryz.func379.trans (congrArg some (by kernel_rfl))
 f267:=Tryz.func407.trans (congrArg some (by kernel_rfl))
 f314:=Tryz.func421.trans (congrArg some (by kernel_rfl))
 t3:=Tryz.underlying3
 a3:=Tryz.isAgg3
 z3:=Tryz.sizeOf3
 v3:=Tryz.zeroValue3
 t4:=Tryz.underlying4
 a4:=Tryz.isAgg4
 z4:=Tryz.sizeOf4
 v4:=Tryz.zeroValue4
 t5:=Tryz.underlying5
 a5:=Tryz.isAgg5
 z5:=Tryz.sizeOf5
 v5:=Tryz.zeroValue5
 t9:=Tryz.underlying9
 a9:=Tryz.isAgg9
 z9:=Tryz.sizeOf9
 v9:=Tryz.zeroValue9
 t46:=Tryz.underlying203
 a46:=Tryz.isAgg203
 z46:=Tryz.sizeOf203
 v46:=Tryz.zeroValue203
 t51:=Tryz.underlying56
 a51:=Tryz.isAgg56
 z51:=Tryz.sizeOf56
 v51:=Tryz.zeroValue56
 t146:=Tryz.underlying350
 a146:=Tryz.isAgg350
 z146:=Tryz.sizeOf350
 v146:=Tryz.zeroValue350
 g1:=by kernel_rfl}
open Go.RowKit Go.Lib in
theorem Tryz.strings_Index_one (s:ByteArray)(c:UInt8)(w:World):
 Calls Tryz.prog 360 #[.string s,.string ⟨#[c]⟩] w fun e w'=>e= .returned (.int .i64 (Lib.indexByte s.data.toList c))∧w'=w:=Any.strings_Index_one Tryz.lays143 s c w
open Go.RowKit Go.Lib in
theorem Tryz.strings_Index (s sub:ByteArray)(m:Int)(w:World)(hs:s.size<4294967281)(hm:w.cell? ⟨3,0,none⟩=some (.int .i64 m)):
 Calls Tryz.prog 360 #[.string s,.string sub] w fun e w'=>e= .returned (.int .i64 (Lib.index s.data.toList sub.data.toList))∧w'=w:=Any.strings_Index Tryz.lays143 s sub m w hs hm
open Go.RowKit Go.Lib in
open Go.RowKit Go.Lib in
def Tryz.lays138_ren:Go.Shelf.Ren:=⟨fun|138=>406|195=>419|218=>420|143=>360|219=>389|217=>339|225=>293|224=>292|267=>407|266=>379|314=>421|n=>n,fun|9=>9|3=>3|4=>4|5=>5|0=>0|46=>203|146=>350|51=>56|n=>n,fun|1=>3|n=>n⟩
theorem Tryz.lays138:Go.Proofs.Lays.n138 Tryz.prog Tryz.lays138_ren:={
 mixed:=by kernel_rfl
 f138:=Tryz.func406.trans (congrArg some (by kernel_rfl))
 f143:=Tryz.func360.trans (congrArg some (by kernel_rfl))
 f195:=Tryz.func419.trans (congrArg some (by kernel_rfl))
 f217:=Tryz.func339.trans (congrArg some (by kernel_rfl))
 f218:=Tryz.func420.trans (congrArg some (by kernel_rfl))
 f219:=Tryz.func389.trans (congrArg some (by kernel_rfl))
 f224:=Tryz.func292.trans (congrArg some (by kernel_rfl))
 f225:=Tryz.func293.trans (congrArg some (by kernel_rfl))
 f266:=Tryz.func379.trans (congrArg some (by kernel_rfl))
 f267:=Tryz.func407.trans (congrArg some (by kernel_rfl))
 f314:=Tryz.func421.trans (congrArg some (by kernel_rfl))
 t0:=Tryz.underlying0
 a0:=Tryz.isAgg0
 z0:=Tryz.sizeOf0
 v0:=Tryz.zeroValue0
 t3:=Tryz.underlying3
 a3:=Tryz.isAgg3
 z3:=Tryz.sizeOf3
 v3:=Tryz.zeroValue3
 t4:=Tryz.underlying4
 a4:=Tryz.isAgg4
 z4:=Tryz.sizeOf4
 v4:=Tryz.zeroValue4
 t5:=Tryz.underlying5
 a5:=Tryz.isAgg5
 z5:=Tryz.sizeOf5
 v5:=Tryz.zeroValue5
 t9:=Tryz.underlying9
 a9:=Tryz.isAgg9
 z9:=Tryz.sizeOf9
 v9:=Tryz.zeroValue9
 t46:=Tryz.underlying203
 a46:=Tryz.isAgg203
 z46:=Tryz.sizeOf203
 v46:=Tryz.zeroValue203
 t51:=Tryz.underlying56
 a51:=Tryz.isAgg56
 z51:=Tryz.sizeOf56
 v51:=Tryz.zeroValue56
 t146:=Tryz.underlying350
 a146:=Tryz.isAgg350
 z146:=Tryz.sizeOf350
 v146:=Tryz.zeroValue350
 g1:=by kernel_rfl}
open Go.RowKit Go.Lib in
open Go.RowKit Go.Lib in
open Go.RowKit Go.Lib in
def Tryz.laysM143_ren:Go.Shelf.Ren:=⟨fun|143=>360|219=>389|217=>339|225=>293|224=>292|267=>407|266=>379|314=>421|n=>n,fun|9=>9|3=>3|4=>4|5=>5|46=>203|146=>350|51=>56|n=>n,fun|1=>3|n=>n⟩
theorem Tryz.laysM143:Go.Proofs.LaysM.n143 Tryz.prog Tryz.laysM143_ren:={
 mixed:=by kernel_rfl
 f143:=Tryz.func360.trans (congrArg some (by kernel_rfl))
 f217:=Tryz.func339.trans (congrArg some (by kernel_rfl))
 f219:=Tryz.func389.trans (congrArg some (by kernel_rfl))
 f224:=Tryz.func292.trans (congrArg some (by kernel_rfl))
 f225:=Tryz.func293.trans (congrArg some (by kernel_rfl))
 f266:=Tryz.func379.trans (congrArg some (by kernel_rfl))
 f267:=Tryz.func407.trans (congrArg some (by kernel_rfl))
 f314:=Tryz.func421.trans (congrArg some (by kernel_rfl))
 t3:=Tryz.underlying3
 a3:=Tryz.isAgg3
 z3:=Tryz.sizeOf3
 v3:=Tryz.zeroValue3
 t4:=Tryz.underlying4
 a4:=Tryz.isAgg4
 z4:=Tryz.sizeOf4
 v4:=Tryz.zeroValue4
 t5:=Tryz.underlying5
 a5:=Tryz.isAgg5
 z5:=Tryz.sizeOf5
 v5:=Tryz.zeroValue5
 t9:=Tryz.underlying9
 a9:=Tryz.isAgg9
 z9:=Tryz.sizeOf9
 v9:=Tryz.zeroValue9
 t46:=Tryz.underlying203
 a46:=Tryz.isAgg203
 z46:=Tryz.sizeOf203
 v46:=Tryz.zeroValue203
 t51:=Tryz.underlying56
 a51:=Tryz.isAgg56
 z51:=Tryz.sizeOf56
 v51:=Tryz.zeroValue56
 t146:=Tryz.underlying350
 a146:=Tryz.isAgg350
 z146:=Tryz.sizeOf350
 v146:=Tryz.zeroValue350
 g1:=by kernel_rfl
 i3:=by kernel_rfl
 i4:=by kernel_rfl
 i5:=by kernel_rfl
 i9:=by kernel_rfl
 i46:=by kernel_rfl
 i51:=by kernel_rfl
 i146:=by kernel_rfl
 m1:=by kernel_rfl
 s1_3:=fun w h=>Go.Proofs.cell_of_shapedOpen_int (zero:=#[.int .i64 0]) (t:=3) h (of_decide_eq_true (by kernel_rfl)) (by kernel_rfl) rfl (by kernel_rfl) (by kernel_rfl) Tryz.underlying3}
open Go.RowKit Go.Lib in
open Go.RowKit Go.Lib in
open Go.RowKit Go.Lib in
open Go.RowKit Go.Lib in
open Go.RowKit Go.Lib in
open Go.RowKit Go.Lib in
open Go.RowKit Go.Lib in
open Go.RowKit Go.Lib in
open Go.RowKit Go.Lib in
open Go.RowKit Go.Lib in
open Go.RowKit Go.Lib in
open Go.RowKit Go.Lib in
open Go.RowKit Go.Lib in
def Tryz.lays99_ren:Go.Shelf.Ren:=⟨fun|99=>56|206=>115|n=>n,fun|9=>9|4=>4|3=>3|n=>n,fun|n=>n⟩
theorem Tryz.lays99:Go.Proofs.Lays.n99 Tryz.prog Tryz.lays99_ren:={
 mixed:=by kernel_rfl
 f99:=Tryz.func56.trans (congrArg some (by kernel_rfl))
 f206:=Tryz.func115.trans (congrArg some (by kernel_rfl))
 t3:=Tryz.underlying3
 a3:=Tryz.isAgg3
 z3:=Tryz.sizeOf3
 v3:=Tryz.zeroValue3
 t4:=Tryz.underlying4
 a4:=Tryz.isAgg4
 z4:=Tryz.sizeOf4
 v4:=Tryz.zeroValue4
 t9:=Tryz.underlying9
 a9:=Tryz.isAgg9
 z9:=Tryz.sizeOf9
 v9:=Tryz.zeroValue9}
open Go.RowKit Go.Lib in
theorem Tryz.strings_HasPrefix (s p:ByteArray)(w:World):
 Calls Tryz.prog 56 #[.string s,.string p] w fun e w'=>e= .returned (.bool (Lib.hasPrefix s.data.toList p.data.toList))∧w'=w:=Any.strings_HasPrefix Tryz.lays99 s p w
open Go.RowKit Go.Lib in
open Go.RowKit Go.Lib in
open Go.RowKit Go.Lib in
open Go.RowKit Go.Lib in
theorem Tryz.strings_Count_any (s sep:ByteArray)(m:Int)(w:World)(hs:s.size<4294967281)(hm:w.cell? ⟨3,0,none⟩=some (.int .i64 m))(h1:1≤sep.size):
 Calls Tryz.prog 406 #[.string s,.string sep] w fun e w'=>e= .returned (.int .i64 (Lib.countB s sep))∧w'=w:=Any.strings_Count_any Tryz.lays138 s sep m w hs hm h1
open Go.RowKit Go.Lib in
open Go.RowKit Go.Lib in
open Go.RowKit Go.Lib in
open Go.RowKit Go.Lib in
open Go.RowKit Go.Lib in
def Tryz.lays197_ren:Go.Shelf.Ren:=⟨fun|197=>287|260=>337|n=>n,fun|9=>9|21=>21|3=>3|4=>4|5=>5|105=>45|119=>298|0=>0|46=>203|139=>301|138=>300|n=>n,fun|3=>1|4=>2|n=>n⟩
theorem Tryz.lays197:Go.Proofs.Lays.n197 Tryz.prog Tryz.lays197_ren:={
 mixed:=by kernel_rfl
 f197:=Tryz.func287.trans (congrArg some (by kernel_rfl))
 f260:=Tryz.func337.trans (congrArg some (by kernel_rfl))
 t0:=Tryz.underlying0
 a0:=Tryz.isAgg0
 z0:=Tryz.sizeOf0
 v0:=Tryz.zeroValue0
 t3:=Tryz.underlying3
 a3:=Tryz.isAgg3
 z3:=Tryz.sizeOf3
 v3:=Tryz.zeroValue3
 t4:=Tryz.underlying4
 a4:=Tryz.isAgg4
 z4:=Tryz.sizeOf4
 v4:=Tryz.zeroValue4
 t5:=Tryz.underlying5
 a5:=Tryz.isAgg5
 z5:=Tryz.sizeOf5
 v5:=Tryz.zeroValue5
 t9:=Tryz.underlying9
 a9:=Tryz.isAgg9
 z9:=Tryz.sizeOf9
 v9:=Tryz.zeroValue9
 t21:=Tryz.underlying21
 a21:=Tryz.isAgg21
 z21:=Tryz.sizeOf21
 v21:=Tryz.zeroValue21
 t46:=Tryz.underlying203
 a46:=Tryz.isAgg203
 z46:=Tryz.sizeOf203
 v46:=Tryz.zeroValue203
 t105:=Tryz.underlying45
 a105:=Tryz.isAgg45
 z105:=Tryz.sizeOf45
 v105:=Tryz.zeroValue45
 t119:=Tryz.underlying298
 a119:=Tryz.isAgg298
 z119:=Tryz.sizeOf298
 t138:=Tryz.underlying300
 a138:=Tryz.isAgg300
 z138:=Tryz.sizeOf300
 v138:=Tryz.zeroValue300
 t139:=Tryz.underlying301
 a139:=Tryz.isAgg301
 z139:=Tryz.sizeOf301
 v139:=Tryz.zeroValue301
 g3:=by kernel_rfl
 g4:=by kernel_rfl}
open Go.RowKit Go.Lib in
def Tryz.lays152_ren:Go.Shelf.Ren:=⟨fun|152=>213|137=>290|119=>291|224=>292|225=>293|217=>339|266=>379|n=>n,fun|9=>9|21=>21|3=>3|4=>4|5=>5|0=>0|46=>203|n=>n,fun|n=>n⟩
theorem Tryz.lays152:Go.Proofs.Lays.n152 Tryz.prog Tryz.lays152_ren:={
 mixed:=by kernel_rfl
 f119:=Tryz.func291.trans (congrArg some (by kernel_rfl))
 f137:=Tryz.func290.trans (congrArg some (by kernel_rfl))
 f152:=Tryz.func213.trans (congrArg some (by kernel_rfl))
 f217:=Tryz.func339.trans (congrArg some (by kernel_rfl))
 f224:=Tryz.func292.trans (congrArg some (by kernel_rfl))
 f225:=Tryz.func293.trans (congrArg some (by kernel_rfl))
 f266:=Tryz.func379.trans (congrArg some (by kernel_rfl))
 t0:=Tryz.underlying0
 a0:=Tryz.isAgg0
 z0:=Tryz.sizeOf0
 v0:=Tryz.zeroValue0
 t3:=Tryz.underlying3
 a3:=Tryz.isAgg3
 z3:=Tryz.sizeOf3
 v3:=Tryz.zeroValue3
 t4:=Tryz.underlying4
 a4:=Tryz.isAgg4
 z4:=Tryz.sizeOf4
 v4:=Tryz.zeroValue4
 t5:=Tryz.underlying5
 a5:=Tryz.isAgg5
 z5:=Tryz.sizeOf5
 v5:=Tryz.zeroValue5
 t9:=Tryz.underlying9
 a9:=Tryz.isAgg9
 z9:=Tryz.sizeOf9
 v9:=Tryz.zeroValue9
 t21:=Tryz.underlying21
 a21:=Tryz.isAgg21
 z21:=Tryz.sizeOf21
 v21:=Tryz.zeroValue21
 t46:=Tryz.underlying203
 a46:=Tryz.isAgg203
 z46:=Tryz.sizeOf203
 v46:=Tryz.zeroValue203}
open Go.RowKit Go.Lib in
theorem Tryz.strings_IndexRune_ascii (s:ByteArray)(r:Int)(w:World)(h0:0≤r)(h1:r<128):
 Calls Tryz.prog 213 #[.string s,.int .i32 r] w fun e w'=>e= .returned (.int .i64 (Lib.indexByte s.data.toList r.toNat.toUInt8))∧w'=w:=Any.strings_IndexRune_ascii Tryz.lays152 s r w h0 h1
open Go.RowKit Go.Lib in
open Go.RowKit Go.Lib in
open Go.RowKit Go.Lib in
def Tryz.lays153_ren:Go.Shelf.Ren:=⟨fun|153=>122|152=>213|226=>214|227=>208|228=>215|137=>290|119=>291|224=>292|225=>293|217=>339|266=>379|n=>n,fun|9=>9|3=>3|4=>4|5=>5|21=>21|117=>248|116=>247|0=>0|46=>203|124=>251|n=>n,fun|n=>n⟩
theorem Tryz.lays153:Go.Proofs.Lays.n153 Tryz.prog Tryz.lays153_ren:={
 mixed:=by kernel_rfl
 f119:=Tryz.func291.trans (congrArg some (by kernel_rfl))
 f137:=Tryz.func290.trans (congrArg some (by kernel_rfl))
 f152:=Tryz.func213.trans (congrArg some (by kernel_rfl))
 f153:=Tryz.func122.trans (congrArg some (by kernel_rfl))
 f217:=Tryz.func339.trans (congrArg some (by kernel_rfl))
 f224:=Tryz.func292.trans (congrArg some (by kernel_rfl))
 f225:=Tryz.func293.trans (congrArg some (by kernel_rfl))
 f226:=Tryz.func214.trans (congrArg some (by kernel_rfl))
 f227:=Tryz.func208.trans (congrArg some (by kernel_rfl))
 f228:=Tryz.func215.trans (congrArg some (by kernel_rfl))
 f266:=Tryz.func379.trans (congrArg some (by kernel_rfl))
 t0:=Tryz.underlying0
 a0:=Tryz.isAgg0
 z0:=Tryz.sizeOf0
 v0:=Tryz.zeroValue0
 t3:=Tryz.underlying3
 a3:=Tryz.isAgg3
 z3:=Tryz.sizeOf3
 v3:=Tryz.zeroValue3
 t4:=Tryz.underlying4
 a4:=Tryz.isAgg4
 z4:=Tryz.sizeOf4
 v4:=Tryz.zeroValue4
 t5:=Tryz.underlying5
 a5:=Tryz.isAgg5
 z5:=Tryz.sizeOf5
 v5:=Tryz.zeroValue5
 t9:=Tryz.underlying9
 a9:=Tryz.isAgg9
 z9:=Tryz.sizeOf9
 v9:=Tryz.zeroValue9
 t21:=Tryz.underlying21
 a21:=Tryz.isAgg21
 z21:=Tryz.sizeOf21
 v21:=Tryz.zeroValue21
 t46:=Tryz.underlying203
 a46:=Tryz.isAgg203
 z46:=Tryz.sizeOf203
 v46:=Tryz.zeroValue203
 t116:=Tryz.underlying247
 a116:=Tryz.isAgg247
 z116:=Tryz.sizeOf247
 t117:=Tryz.underlying248
 a117:=Tryz.isAgg248
 z117:=Tryz.sizeOf248
 v117:=Tryz.zeroValue248
 t124:=Tryz.underlying251
 a124:=Tryz.isAgg251
 z124:=Tryz.sizeOf251
 v124:=Tryz.zeroValue251}
open Go.RowKit Go.Lib in
open Go.RowKit Go.Lib in
open Go.RowKit Go.Lib in
open Go.RowKit Go.Lib in
open Go.RowKit Go.Lib in
open Go.RowKit Go.Lib in
open Go.RowKit Go.Lib in
open Go.RowKit Go.Lib in
open Go.RowKit Go.Lib in
open Go.RowKit Go.Lib in
open Go.RowKit Go.Lib in
open Go.RowKit Go.Lib in
open Go.RowKit Go.Lib in
def Tryz.lays105_ren:Go.Shelf.Ren:=⟨fun|105=>276|212=>333|99=>56|165=>246|166=>247|170=>334|169=>248|263=>377|264=>378|206=>115|240=>317|241=>318|276=>362|277=>363|n=>n,fun|9=>9|3=>3|4=>4|20=>20|0=>0|46=>203|109=>348|5=>5|72=>290|76=>294|51=>56|146=>350|53=>55|148=>385|70=>288|37=>79|75=>293|127=>343|164=>370|80=>149|n=>n,fun|n=>n⟩
theorem Tryz.lays105:Go.Proofs.Lays.n105 Tryz.prog Tryz.lays105_ren:={
 mixed:=by kernel_rfl
 f99:=Tryz.func56.trans (congrArg some (by kernel_rfl))
 f105:=Tryz.func276.trans (congrArg some (by kernel_rfl))
 f165:=Tryz.func246.trans (congrArg some (by kernel_rfl))
 f166:=Tryz.func247.trans (congrArg some (by kernel_rfl))
 f169:=Tryz.func248.trans (congrArg some (by kernel_rfl))
 f170:=Tryz.func334.trans (congrArg some (by kernel_rfl))
 f206:=Tryz.func115.trans (congrArg some (by kernel_rfl))
 f212:=Tryz.func333.trans (congrArg some (by kernel_rfl))
 f240:=Tryz.func317.trans (congrArg some (by kernel_rfl))
 f241:=Tryz.func318.trans (congrArg some (by kernel_rfl))
 f263:=Tryz.func377.trans (congrArg some (by kernel_rfl))
 f264:=Tryz.func378.trans (congrArg some (by kernel_rfl))
 f276:=Tryz.func362.trans (congrArg some (by kernel_rfl))
 f277:=Tryz.func363.trans (congrArg some (by kernel_rfl))
 t0:=Tryz.underlying0
 a0:=Tryz.isAgg0
 z0:=Tryz.sizeOf0
 v0:=Tryz.zeroValue0
 t3:=Tryz.underlying3
 a3:=Tryz.isAgg3
 z3:=Tryz.sizeOf3
 v3:=Tryz.zeroValue3
 t4:=Tryz.underlying4
 a4:=Tryz.isAgg4
 z4:=Tryz.sizeOf4
 v4:=Tryz.zeroValue4
 t5:=Tryz.underlying5
 a5:=Tryz.isAgg5
 z5:=Tryz.sizeOf5
 v5:=Tryz.zeroValue5
 t9:=Tryz.underlying9
 a9:=Tryz.isAgg9
 z9:=Tryz.sizeOf9
 v9:=Tryz.zeroValue9
 t20:=Tryz.underlying20
 a20:=Tryz.isAgg20
 z20:=Tryz.sizeOf20
 v20:=Tryz.zeroValue20
 t37:=Tryz.underlying79
 a37:=Tryz.isAgg79
 z37:=Tryz.sizeOf79
 v37:=Tryz.zeroValue79
 t46:=Tryz.underlying203
 a46:=Tryz.isAgg203
 z46:=Tryz.sizeOf203
 v46:=Tryz.zeroValue203
 t51:=Tryz.underlying56
 a51:=Tryz.isAgg56
 z51:=Tryz.sizeOf56
 v51:=Tryz.zeroValue56
 t53:=Tryz.underlying55
 a53:=Tryz.isAgg55
 z53:=Tryz.sizeOf55
 v53:=Tryz.zeroValue55
 t70:=Tryz.underlying288
 a70:=Tryz.isAgg288
 z70:=Tryz.sizeOf288
 v70:=Tryz.zeroValue288
 t72:=Tryz.underlying290
 a72:=Tryz.isAgg290
 z72:=Tryz.sizeOf290
 v72:=Tryz.zeroValue290
 t75:=Tryz.underlying293
 a75:=Tryz.isAgg293
 z75:=Tryz.sizeOf293
 v75:=Tryz.zeroValue293
 t76:=Tryz.underlying294
 a76:=Tryz.isAgg294
 z76:=Tryz.sizeOf294
 v76:=Tryz.zeroValue294
 t109:=Tryz.underlying348
 a109:=Tryz.isAgg348
 z109:=Tryz.sizeOf348
 v109:=Tryz.zeroValue348
 t127:=Tryz.underlying343
 a127:=Tryz.isAgg343
 z127:=Tryz.sizeOf343
 v127:=Tryz.zeroValue343
 t146:=Tryz.underlying350
 a146:=Tryz.isAgg350
 z146:=Tryz.sizeOf350
 v146:=Tryz.zeroValue350
 t148:=Tryz.underlying385
 a148:=Tryz.isAgg385
 z148:=Tryz.sizeOf385
 v148:=Tryz.zeroValue385
 t164:=Tryz.underlying370
 a164:=Tryz.isAgg370
 z164:=Tryz.sizeOf370
 v164:=Tryz.zeroValue370}
theorem Tryz.Builder_Extra_105:Builder.Extra Tryz.prog Tryz.lays105_ren:={
 sizeBuilder:=by kernel_rfl
 liesBuilder:=by kernel_rfl
 t5:=Tryz.underlying5
 a5:=Tryz.isAgg5
 z5:=Tryz.sizeOf5
 v5:=Tryz.zeroValue5
 infoByte:=by kernel_rfl
 cellsByte:=by kernel_rfl
 sizeByte:=by kernel_rfl
 neB5:=by decide}
open Go.RowKit Go.Lib in
open Go.RowKit Go.Lib in
open Go.RowKit Go.Lib in
open Go.RowKit Go.Lib in
open Go.RowKit Go.Lib in
open Go.RowKit Go.Lib in
open Go.RowKit Go.Lib in
theorem Tryz.strings_Repeat (s:ByteArray)(c:Nat)(w:World)(hc:c≤9223372036854775807)(hlen:s.size*c≤140737488355328):
 Calls Tryz.prog 276 #[.string s,.int .i64 c] w fun e w'=>e= .returned (.string ⟨(Lib.repeatL s.data.toList c).toArray⟩)∧Below w.heap.size w w':=Any.strings_Repeat Tryz.lays105 Tryz.Builder_Extra_105 s c w hc hlen
def Tryz.lays260_ren:Go.Shelf.Ren:=⟨fun|260=>337|n=>n,fun|9=>9|21=>21|3=>3|4=>4|5=>5|119=>298|0=>0|46=>203|139=>301|138=>300|n=>n,fun|3=>1|4=>2|n=>n⟩
theorem Tryz.lays260:Go.Proofs.Lays.n260 Tryz.prog Tryz.lays260_ren:={
 mixed:=by kernel_rfl
 f260:=Tryz.func337.trans (congrArg some (by kernel_rfl))
 t0:=Tryz.underlying0
 a0:=Tryz.isAgg0
 z0:=Tryz.sizeOf0
 v0:=Tryz.zeroValue0
 t3:=Tryz.underlying3
 a3:=Tryz.isAgg3
 z3:=Tryz.sizeOf3
 v3:=Tryz.zeroValue3
 t4:=Tryz.underlying4
 a4:=Tryz.isAgg4
 z4:=Tryz.sizeOf4
 v4:=Tryz.zeroValue4
 t5:=Tryz.underlying5
 a5:=Tryz.isAgg5
 z5:=Tryz.sizeOf5
 v5:=Tryz.zeroValue5
 t9:=Tryz.underlying9
 a9:=Tryz.isAgg9
 z9:=Tryz.sizeOf9
 v9:=Tryz.zeroValue9
 t21:=Tryz.underlying21
 a21:=Tryz.isAgg21
 z21:=Tryz.sizeOf21
 v21:=Tryz.zeroValue21
 t46:=Tryz.underlying203
 a46:=Tryz.isAgg203
 z46:=Tryz.sizeOf203
 v46:=Tryz.zeroValue203
 t119:=Tryz.underlying298
 a119:=Tryz.isAgg298
 z119:=Tryz.sizeOf298
 t138:=Tryz.underlying300
 a138:=Tryz.isAgg300
 z138:=Tryz.sizeOf300
 v138:=Tryz.zeroValue300
 t139:=Tryz.underlying301
 a139:=Tryz.isAgg301
 z139:=Tryz.sizeOf301
 v139:=Tryz.zeroValue301
 g3:=by kernel_rfl
 g4:=by kernel_rfl}
open Go.RowKit Go.Lib in
open Go.RowKit Go.Lib in
theorem Tryz.utf8_DecodeRuneInString (s:ByteArray)(w:World)(hT:Lib.Utf8Tabs 1 2 w):
 Calls Tryz.prog 287 #[.string s] w fun e w'=>e= .returned (.tuple #[.int .i32 (Lib.decodeGo s).1,.int .i64 (Lib.decodeGo s).2])∧Below w.heap.size w w':=Any.utf8_DecodeRuneInString Tryz.lays197 s w hT
def Tryz.laysValid_ren:Go.Shelf.Ren:=⟨fun|196=>175|259=>254|n=>n,fun|9=>9|4=>4|3=>3|5=>5|12=>12|119=>298|0=>0|46=>203|139=>301|138=>300|53=>55|n=>n,fun|3=>1|4=>2|n=>n⟩
theorem Tryz.laysValid:Go.Proofs.Lays.n196 Tryz.prog Tryz.laysValid_ren:={
 mixed:=by kernel_rfl
 f196:=Tryz.func175.trans (congrArg some (by kernel_rfl))
 f259:=Tryz.func254.trans (congrArg some (by kernel_rfl))
 t0:=Tryz.underlying0
 a0:=Tryz.isAgg0
 z0:=Tryz.sizeOf0
 v0:=Tryz.zeroValue0
 t3:=Tryz.underlying3
 a3:=Tryz.isAgg3
 z3:=Tryz.sizeOf3
 v3:=Tryz.zeroValue3
 t4:=Tryz.underlying4
 a4:=Tryz.isAgg4
 z4:=Tryz.sizeOf4
 v4:=Tryz.zeroValue4
 t5:=Tryz.underlying5
 a5:=Tryz.isAgg5
 z5:=Tryz.sizeOf5
 v5:=Tryz.zeroValue5
 t9:=Tryz.underlying9
 a9:=Tryz.isAgg9
 z9:=Tryz.sizeOf9
 v9:=Tryz.zeroValue9
 t12:=Tryz.underlying12
 a12:=Tryz.isAgg12
 z12:=Tryz.sizeOf12
 v12:=Tryz.zeroValue12
 t46:=Tryz.underlying203
 a46:=Tryz.isAgg203
 z46:=Tryz.sizeOf203
 v46:=Tryz.zeroValue203
 t53:=Tryz.underlying55
 a53:=Tryz.isAgg55
 z53:=Tryz.sizeOf55
 v53:=Tryz.zeroValue55
 t119:=Tryz.underlying298
 a119:=Tryz.isAgg298
 z119:=Tryz.sizeOf298
 t138:=Tryz.underlying300
 a138:=Tryz.isAgg300
 z138:=Tryz.sizeOf300
 v138:=Tryz.zeroValue300
 t139:=Tryz.underlying301
 a139:=Tryz.isAgg301
 z139:=Tryz.sizeOf301
 v139:=Tryz.zeroValue301
 g3:=by kernel_rfl
 g4:=by kernel_rfl}
def Tryz.lays7n28_ren:Go.Shelf.Ren:=⟨fun|28=>404|n=>n,fun|27=>56|3=>3|4=>4|25=>203|53=>414|0=>0|5=>5|n=>n,fun|0=>4|n=>n⟩
theorem Tryz.lays7n28:Go.Proofs.Lays7.n28 Tryz.prog Tryz.lays7n28_ren:={
 mixed:=by kernel_rfl
 f28:=Tryz.func404.trans (congrArg some (by kernel_rfl))
 t0:=Tryz.underlying0
 a0:=Tryz.isAgg0
 z0:=Tryz.sizeOf0
 v0:=Tryz.zeroValue0
 i0:=by kernel_rfl
 t3:=Tryz.underlying3
 a3:=Tryz.isAgg3
 z3:=Tryz.sizeOf3
 v3:=Tryz.zeroValue3
 i3:=by kernel_rfl
 t4:=Tryz.underlying4
 a4:=Tryz.isAgg4
 z4:=Tryz.sizeOf4
 v4:=Tryz.zeroValue4
 i4:=by kernel_rfl
 t5:=Tryz.underlying5
 a5:=Tryz.isAgg5
 z5:=Tryz.sizeOf5
 v5:=Tryz.zeroValue5
 i5:=by kernel_rfl
 t25:=Tryz.underlying203
 a25:=Tryz.isAgg203
 z25:=Tryz.sizeOf203
 v25:=Tryz.zeroValue203
 i25:=by kernel_rfl
 t27:=Tryz.underlying56
 a27:=Tryz.isAgg56
 z27:=Tryz.sizeOf56
 v27:=Tryz.zeroValue56
 i27:=by kernel_rfl
 t53:=Tryz.underlying414
 a53:=Tryz.isAgg414
 z53:=Tryz.sizeOf414
 v53:=Tryz.zeroValue414
 i53:=by kernel_rfl
 g0:=by kernel_rfl}
end Go.Proofs
