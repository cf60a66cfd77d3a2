/- Lemmas for a statement on the tops; conditions: as each says. -/
import Derived.Laws.Tables
import Derived.Deep.WholeRow
import Derived.Maps.OwnOps
import Derived.Maps.OwnSet
import Derived.Maps.Views
import Derived.DeepKeys4
import Derived.Lib.Bytealg
import Derived.Test.YtnbkfkbcpfkddaaGreatDoorM3
import Derived.Test.YtnbkfkbcpfkddaaGreatDoorM17
set_option linter.unusedVariables false
set_option linter.unusedSimpArgs false
set_option maxRecDepth 100000
set_option maxHeartbeats 4000000
namespace Go.Proofs.YtnbkfkbcpfkddaaGreatDoor
open Go Go.RowKit
def DB (w:World):Prop:=TabAt 4 Lib.deBruijn32tab w
theorem ZlQ {w w':World} {B:Nat} (h:DB w)(hb:Below B w w')(hB:w.heap.size≤B):DB w':=fun j hj=>
 (hb.cell (p:=⟨_,j,none⟩) (Nat.lt_of_lt_of_le (World.block_lt_of_cell? _ _ (h j hj)) hB)).trans (h j hj)
def ML (w:World):Prop:=∃m:Int,w.cell? ⟨3,0,none⟩=some (.int .i64 m)
theorem Zl6 {w w':World} {B:Nat} (h:ML w)(hb:Below B w w')(hB:w.heap.size≤B):ML w':=by
 obtain⟨m,hm⟩:=h;exact⟨m,(hb.cell (p:=⟨_,0,none⟩) (Nat.lt_of_lt_of_le (World.block_lt_of_cell? _ _ hm) hB)).trans hm⟩
theorem Zjt:ZaX 11171=false:=by decide+kernel
theorem Znu:cnt false 11171=8821:=by
 have h:cnt false 11172=cnt false 11171+(if ZaX 11171=false then 1 else 0):=rfl;rw [Znv,Zjt] at h;simp at h;omega
end Go.Proofs.YtnbkfkbcpfkddaaGreatDoor
namespace Go.Proofs.YtnbkfkbcpfkddaaGreatDoor
open Go
abbrev ZaT:=List Int⊕Nat
def Zar (p:List Int):ZaT→ZaT
 | .inl l=> .inl (p++l)
 | .inr n=> .inr n
theorem ZnD (r:ZaT):Zar [] r=r:=by cases r<;>rfl
theorem ZiL (a b:List Int)(r:ZaT):Zar a (Zar b r)=Zar (a++b) r:=by cases r<;>simp [Zar]
def ZF (f:UInt8→UInt8→List Int):List UInt8→Nat→ZaT
 |[],_=> .inl []
 |[a],i=>if a.toNat<128 then .inl [(a.toNat:Int)] else .inr i
 |a::b::q,i=>if a.toNat<128 then Zar [(a.toNat:Int)] (ZF f (b::q) (i+1)) else if f a b=[] then .inr i else Zar (f a b) (ZF f q (i+2))
section
variable (f:UInt8→UInt8→List Int)
theorem ZnF (l:List UInt8)(k:Nat)(h:k<l.length)(h1:l[k].toNat<128):ZF f (l.drop k) k=Zar [(l[k].toNat:Int)] (ZF f (l.drop (k+1)) (k+1)):=by
 rw [List.drop_eq_getElem_cons h];cases hq:l.drop (k+1) with
 |nil=>simp [ZF,h1,Zar]
 |cons b q=>simp [ZF,h1]
theorem ZnH (l:List UInt8)(k:Nat)(h:k<l.length)(h1:¬l[k].toNat<128)(h2:l.length=k+1):ZF f (l.drop k) k= .inr k:=by
 rw [List.drop_eq_getElem_cons h,List.drop_of_length_le (by omega),ZF,if_neg h1]
theorem ZnG (l:List UInt8)(k:Nat)(h:k+1<l.length)(h1:¬l[k].toNat<128)(h2:f l[k] l[k+1]=[]):ZF f (l.drop k) k= .inr k:=by
 rw [List.drop_eq_getElem_cons (by omega),List.drop_eq_getElem_cons h,ZF,if_neg h1,if_pos h2]
theorem ZnI (l:List UInt8)(k:Nat)(h:k+1<l.length)(h1:¬l[k].toNat<128)(h2:f l[k] l[k+1]≠[]):ZF f (l.drop k) k=Zar (f l[k] l[k+1]) (ZF f (l.drop (k+2)) (k+2)):=by
 rw [List.drop_eq_getElem_cons (by omega),List.drop_eq_getElem_cons h,ZF,if_neg h1,if_neg h2]
theorem ZnE (l:List UInt8)(k:Nat)(h:l.length≤k):ZF f (l.drop k) k= .inl []:=by
 rw [List.drop_of_length_le h,ZF]
end
def utfF:Nat→List UInt8→Nat→ZaT
 |0,_,_=> .inl []
 |n+1,l,i=>if l=[] then .inl [] else if ZaK (Zx l) then .inr i else Zar [((Zx l).1:Int)] (utfF n (l.drop (Zx l).2) (i+(Zx l).2))
def Zcq (l:List UInt8):ZaT:=utfF l.length l 0
theorem Zhp:∀(n:Nat) (ps:List Int) (r:List UInt8) (i:Nat),(Zd ps++r).length≤n→(∀p∈ps,Zv p=true)→(r=[]∨ZaK (Zx r))→utfF n (Zd ps++r) i=if r=[] then .inl ps else .inr (i+(Zd ps).length)
 |0,ps,r,i,h,_,_=>by
  have h0:Zd ps++r=[]:=List.eq_nil_of_length_eq_zero (by omega);obtain⟨h1,h2⟩:=List.append_eq_nil_iff.1 h0;subst h2;have:ps=[]:=by cases ps with|nil=>rfl|cons p ps=>rw [Zap] at h1;exact absurd (List.append_eq_nil_iff.1 h1).1 (Zgj p)
  subst this;rfl
 |n+1,[],r,i,h,_,hr=>by
  rw [Zbi,List.nil_append,utfF];by_cases h0:r=[]
  · rw [if_pos h0,if_pos h0]
  · rw [if_neg h0,if_neg h0,if_pos (hr.resolve_left h0)];rfl
 |n+1,p::ps,r,i,h,hp,hr=>by
  have sp:=hp p (List.mem_cons_self ..);have hl:=ZbW p;rw [Zap,List.append_assoc] at h⊢;rw [utfF,if_neg (fun e=>Zgj p (List.append_eq_nil_iff.1 e).1),if_neg (ZgI sp _),Zc2 sp];simp only;rw [List.drop_left,Zhp n ps r _ (by rw [List.length_append] at h;omega) (fun x hx=>hp x (List.mem_cons_of_mem _ hx)) hr];have e:((p.toNat:Nat):Int)=p:=by rw [Za1] at sp;omega
  rw [e];split
  · rfl
  · simp only [Zar,List.length_append];congr 1;omega
theorem Zq8 {l:List UInt8} {ps:List Int} (h:Good ⟨l.toArray⟩ ps):Zcq l= .inl ps:=by
 have e:l=Zd ps++[]:=by simpa using h.1
 unfold Zcq;rw [e,Zhp _ ps [] 0 (by simp) h.2 (.inl rfl),if_pos rfl]
theorem Zq7 {l:List UInt8} {n:Nat} (h:ZaI ⟨l.toArray⟩ n):Zcq l= .inr n:=by
 obtain⟨ps,r,h1,h2,h3,h4,h5⟩:=h;have e:l=Zd ps++r:=by simpa using h1
 unfold Zcq;rw [e,Zhp _ ps r 0 (by simp) h2 (.inr h5),if_neg h4,h3,Nat.zero_add]
theorem Zhq (l:List UInt8):(∃ps,Good ⟨l.toArray⟩ ps∧Zcq l= .inl ps)∨∃n,ZaI ⟨l.toArray⟩ n∧Zcq l= .inr n:=by
 rcases Zoj ⟨l.toArray⟩ with⟨ps,h⟩|⟨n,h⟩
 · exact .inl ⟨ps,h,Zq8 h⟩
 · exact .inr ⟨n,h,Zq7 h⟩
def cellZ (b:Int):Int:=if 64≤b∧b≤126 then b - 64 else if 161≤b∧b≤254 then b - 161+63 else -1
def Zqb (c:Int):Int:=if c<63 then 64+c else 161+c - 63
def B0:List Int:=[
 256,193,461,192,274,201,282,200,332,211,465,210]
def B1:List Int:=[
 7870]
def B2:List Int:=[
 7872,202,257,225,462,224,593,275,233,283,232,299,237,464,236,333]
def B3:List Int:=[
 243,466,242,363,250,468,249,470,472,474]
def B4:List Int:=[
 476,252]
def B5:List Int:=[
 7871]
def B6:List Int:=[
 7873,234,609]
def B7:List Int:=[
 12288,65292,12289,12290,65294,8226,65307,65306,65311,65281,65072,8230,8229,65104,65380,65106,183,65108,65109,65110,
 65111,65372,8211,65073,8212,65075,9588,65076,65103,65288,65289,65077,65078,65371,65373,65079,65080,12308,12309,65081,
 65082,12304,12305,65083,65084,12298,12299,65085,65086,12296,12297,65087,65088,12300,12301,65089,65090,12302,12303,65091,
 65092,65113,65114,65115,65116,65117,65118,8216,8217,8220,8221,12317,12318,8245,8242,65283,65286,65290,8251,167,
 12291,9675,9679,9651,9650,9678,9734,9733,9671,9670,9633,9632,9661,9660,12963,8453,8254,65507,65343,717,
 65097,65098,65101,65102,65099,65100,65119,65120,65121,65291,65293,215,247,177,8730,65308,65310,65309,8806,8807,
 8800,8734,8786,8801,65122,65123,65124,65125,65126,8764,8745,8746,8869,8736,8735,8895,13266,13265,8747,8750,
 8757,8756,9792,9794,9793,9737,8593,8595,8592,8594,8598,8599,8601,8600,8741,8739,65295]
def B8:List Int:=[
 65367,65368,65369,65370,913,914,915,916,917,918,919,920,921,922,923,924,925,926,927,928,
 929,931,932,933,934,935,936,937,945,946,947,948,949,950,951,952,953,954,955,956,
 957,958,959,960,961,963,964,965,966,967,968,969,12549,12550,12551,12552,12553,12554,12555,12556,
 12557,12558,12559,12560,12561,12562,12563,12564,12565,12566,12567,12568,12569,12570,12571,12572,12573,12574,12575,12576,
 12577,12578,12579,12580,12581,12582,12583,12584,12585,729,713,714,711,715]
def B9:List Int:=[
 19968,20057,19969,19971,20035,20061,20102,20108,20154,20799,20837,20843,20960,20992,20993,21147,21269,21313,21340,21448,
 19977,19979,19976,19978,20011,20024,20961,20037,20040,20063,20062,20110,20129,20800,20995,21242,21315,21449,21475,22303,
 22763,22805,22823,22899,23376,23377,23379,23544,23567,23586,23608,23665,24029,24037,24049,24050,24051,24062,24178,24318,
 24331,24339,25165,19985,19984,19981,20013,20016,20025,20043,23609,20104,20113,20117,20114,20116,20130,20161,20160,20163,
 20166,20167,20173,20170,20171,20164,20803,20801,20839,20845,20846,20844,20887,20982,20998,20999,21000,21243,21246,21247,
 21270,21305,21320,21319,21317,21342,21380,21451,21450,21453,22764,22825,22827,22826,22829,23380,23569,23588,23610,23663,
 24052,24187,24319,24340,24341,24515,25096,25142,25163,25166,25903,25991,26007,26020,26041,26085,26352,26376,26408,27424,
 27490,27513,27595,27604,27611,27663,27700,28779,29226,29238,29243,29255,29273,29275,29356,29579,19993]
def B10:List Int:=[
 19990,19989,19988,19992,20027,20045,20047,20046,20197,20184,20180,20181,20182,20183,20195,20196,20185,20190,20805,20804,
 20873,20874,20908,20985,20986,20984,21002,21152,21151,21253,21254,21271,21277,20191,21322,21321,21345,21344,21359,21358,
 21435,21487,21476,21491,21484,21486,21481,21480,21500,21496,21493,21483,21478,21482,21490,21489,21488,21477,21485,21499,
 22235,22234,22806,22830,22833,22900,22902,23381,23427,23612,24040,24039,24038,24066,24067,24179,24188,24321,24344,24343,
 24517,25098,25171,25172,25170,25169,26021,26086,26414,26412,26410,26411,26413,27491,27597,27665,27664,27704,27713,27712,
 27710,29359,29572,29577,29916,29926,29976,29983,29992,29993,30000,30001,30002,30003,30091,30333,30382,30399,30446,30683,
 30690,30707,31034,31166,31348,31435,19998,19999,20050,20051,20073,20121,20132,20134,20133,20223,20233,20249,20234,20245,
 20237,20240,20241,20239,20210,20214,20219,20208,20211,20221,20225,20235,20809,20807,20806,20808,20840]
def SP:List (Int×Int×List Int):=[(136,86,B0),(136,99,B1),(136,101,B2),(136,117,B3),(136,161,B4),(136,164,B5),(136,166,B6),(161,64,B7),(163,64,B8),(164,64,B9),(165,64,B10)]
def R136:List Int:=List.replicate 22 63++B0++List.replicate 1 63++B1++List.replicate 1 63++B2++B3++B4++List.replicate 1 63++B5++List.replicate 1 63++B6
def R161:List Int:=B7
def R163:List Int:=B8
def R164:List Int:=B9
def R165:List Int:=B10
def ZaQ (c:UInt8):Nat:=if c.toNat<58 then c.toNat - 48 else c.toNat - 55
def Zc4 (c:UInt8):Bool:=Nat.ble 48 c.toNat&&Nat.ble c.toNat 57||Nat.ble 65 c.toNat&&Nat.ble c.toNat 70
def ZbC:List UInt8→List Int→Bool
 |a::b::c::d::e::r,p::ps=>Zc4 a&&Zc4 b&&Zc4 c&&Zc4 d&&Nat.beq e.toNat 32&&decide (p=(ZaQ a*4096+ZaQ b*256+ZaQ c*16+ZaQ d:Nat))&&ZbC r ps
 |[],[]=>true
 |_,_=>false
theorem ZeC {c:UInt8} (h:Zc4 c=true):ZaQ c<16∧ZcD (ZaQ c:Int)=c:=by
 have h':(48≤c.toNat∧c.toNat≤57)∨(65≤c.toNat∧c.toNat≤70):=by simpa [Zc4,Nat.ble_eq] using h
 have hb:=c.toNat_lt;rcases h' with h'|h'
 · have e:ZaQ c=c.toNat - 48:=by unfold ZaQ;rw [if_pos (by omega)]
   refine⟨by omega,?_⟩;unfold ZcD;rw [if_pos (by omega),e];have:(48+((c.toNat - 48:Nat):Int)).toNat=c.toNat:=by omega
   rw [this];simp
 · have e:ZaQ c=c.toNat - 55:=by unfold ZaQ;rw [if_neg (by omega)]
   refine⟨by omega,?_⟩;unfold ZcD;rw [if_neg (by omega),e];have:(55+((c.toNat - 55:Nat):Int)).toNat=c.toNat:=by omega
   rw [this];simp
theorem Zjo:∀(l:List UInt8) (ps:List Int),ZbC l ps=true→l=hexL ps
 |a::b::c::d::e::r,p::ps,h=>by
  simp only [ZbC,Bool.and_eq_true,decide_eq_true_eq] at h;obtain⟨⟨⟨⟨⟨⟨h1,h2⟩,h3⟩,h4⟩,h5⟩,h6⟩,h7⟩:=h;have ih:=Zjo r ps h7;obtain⟨a1,a2⟩:=ZeC h1;obtain⟨b1,b2⟩:=ZeC h2;obtain⟨c1,c2⟩:=ZeC h3;obtain⟨d1,d2⟩:=ZeC h4;have e5:e=32:=by
   have:=Nat.eq_of_beq_eq_true h5;exact UInt8.toNat_inj.1 this
  have f1:p / 4096=(ZaQ a:Int):=by omega
  have f2:p / 256 % 16=(ZaQ b:Int):=by omega
  have f3:p / 16 % 16=(ZaQ c:Int):=by omega
  have f4:p % 16=(ZaQ d:Int):=by omega
  rw [Zop,Zf6,f1,f2,f3,f4,a2,b2,c2,d2,←ih,e5];rfl
 |[],[],_=>rfl
 |[],_::_,h=>by simp [ZbC] at h
 |_::_,[],h=>by simp [ZbC] at h
 |[_],_::_,h=>by simp [ZbC] at h
 |[_,_],_::_,h=>by simp [ZbC] at h
 |[_,_,_],_::_,h=>by simp [ZbC] at h
 |[_,_,_,_],_::_,h=>by simp [ZbC] at h
def ZiE (lead:Int):Int→List Int→List (Int×Int)
 |_,[]=>[]
 |c,p::ps=>(lead*256+Zqb c,p)::ZiE lead (c+1) ps
def Zgn:List (Int×Int×List Int)→List (Int×Int)
 |[]=>[]
 |t::l=>ZiE t.1 (cellZ t.2.1) t.2.2++Zgn l
def RL:List (Int×Int×List Int):=[(136,64,R136),(161,64,R161),(163,64,R163),(164,64,R164),(165,64,R165)]
theorem Zgp:Zgn SP=(Zgn RL).filter fun t=>decide (t.2≠63):=by decide+kernel
end Go.Proofs.YtnbkfkbcpfkddaaGreatDoor
namespace Go.Proofs.YtnbkfkbcpfkddaaGreatDoor
open Go Go.RowKit
def sB (n:Nat):ByteArray:=⟨(hexL (SP.getD n (0,0,[])).2.2).toArray⟩
theorem lit (n:Nat)(d:Array UInt8)(h:ZbC d.toList (SP.getD n (0,0,[])).2.2=true):ByteArray.mk d=sB n:=by
 have:=Zjo _ _ h;unfold sB;rw [←this]
end Go.Proofs.YtnbkfkbcpfkddaaGreatDoor
namespace Go.Proofs.YtnbkfkbcpfkddaaGreatDoor
open Go Go.RowKit Go.Maps
def twoV (x y:UInt8):Value:= .agg #[.int .u8 x.toNat,.int .u8 y.toNat]
def Zd8:Value→Option (DataW Unit×List MemPlace)
 | .agg ⟨[.string s]⟩=>some (.lit (.string s.data.toList),[])
 |_=>none
theorem ZqJ {v:Value} {z:DataW Unit×List MemPlace} (h:Zd8 v=some z):∃s:ByteArray,v= .agg #[.string s]∧z=(.lit (.string s.data.toList),[]):=by
 unfold Zd8 at h;split at h
 · injection h with h;exact⟨_,rfl,h.symm⟩
 · cases h
theorem law2u:Keyed Tryz.prog 266:=Keyed.of_law (deep_law_laid (m:=3) (by kernel_rfl) (by decide) (of_decide_eq_true (by kernel_rfl)) (by kernel_rfl) (by kernel_rfl))
theorem u8_wf (x:UInt8):(Lit.int .u8 (x.toNat:Int)).wf=true:=by
 have:=x.toNat_lt;simp [Lit.wf,IntKind.min,IntKind.max,IntKind.bits,IntKind.signed];omega
theorem Zq0 (z:UInt8):(Lit.int .u8 (z.toNat:Int)).keyBytes=[z]:=by
 have hz:=z.toNat_lt;have e1:((z.toNat:Int) % 2^IntKind.u8.bits).toNat=z.toNat:=by
  show((z.toNat:Int) % 2^8).toNat=z.toNat
  omega
 show bytesBE 1 ((z.toNat:Int) % 2^IntKind.u8.bits).toNat=[z]
 rw [e1];simp [bytesBE,bytesLE]
theorem Zjz (x y:UInt8):keyOf Tryz.prog 266 (twoV x y)=some (.string [x,y]):=by
 have h1:Tryz.prog.keyType 266=true:=by kernel_rfl
 have h3:Tryz.prog.cellsOf 266=2:=by kernel_rfl
 have h4:Tryz.prog.cellsOf 5=1:=by kernel_rfl
 have h5:1≤Tryz.prog.types.size:=of_decide_eq_true (by kernel_rfl);have h2:(twoV x y).formed Tryz.prog 266=true:=by
  simp [twoV,Value.formed,Tryz.underlying266,h3]
 have hk:∀m,Tryz.prog.keyLits (m+1+1) 266 [.int .u8 x.toNat,.int .u8 y.toNat]=some [.int .u8 x.toNat,.int .u8 y.toNat]:=by
  intro m;have hi:∀z:UInt8,Tryz.prog.keyLits (m+1) 5 [.int .u8 z.toNat]=some [.int .u8 z.toNat]:=by
   intro z;rw [Program.keyLits.eq_def];simp only [Tryz.underlying5,u8_wf,and_self,if_true]
  rw [Program.keyLits.eq_def];simp only [Tryz.underlying266,h3,h4,List.length_cons,List.length_nil,if_true];simp only [List.range_succ,List.range_zero,List.nil_append,List.cons_append,List.mapM_cons,List.mapM_nil];simp [hi]
 obtain⟨m,hm⟩:∃m,Tryz.prog.types.size=m+1:=⟨Tryz.prog.types.size - 1,by omega⟩
 unfold keyOf;rw [Tryz.underlying266];simp only [h1,Bool.true_and];rw [if_pos h2,hm];show(Tryz.prog.keyLits (m+1+1) 266 [.int .u8 x.toNat,.int .u8 y.toNat]).map _=_
 rw [hk m,Option.map_some];simp only [keyBytes,List.flatMap_cons,List.flatMap_nil,Zq0,List.append_nil,List.cons_append,List.nil_append]
def MpT (w:World)(b n:Nat)(M:UInt8→UInt8→Option (List UInt8)):Prop:=∃D:DataW Unit,w.ownsMap Tryz.prog 266 Zd8 b n D∧(∀x y,(M x y).isSome=Maps.has D (.string [x,y]))∧∀x y t,M x y=some t→∀z,D.atKey (.string [x,y]) z= .lit (.string t)
theorem MpT.made (w:World):MpT (w.alloc (.map #[] 0)) w.heap.size 0 (fun _ _=>none):=⟨.map [],World.ownsMap_made _ _ _ _,fun _ _=>rfl,fun _ _ _ h=>by cases h⟩
theorem MpT.kept {w w':World} {b n:Nat} {M:UInt8→UInt8→Option (List UInt8)} {row:Option Nat} (h:MpT w b n M)(hg:w.grownBy w' row)(hne:some b≠row):MpT w' b n M:=by
 obtain⟨D,h1,h2⟩:=h;exact⟨D,h1.kept hg hne,h2⟩
theorem MpT.below {w w':World} {b n:Nat} {M:UInt8→UInt8→Option (List UInt8)} (h:MpT w b n M)(hb:Below w.heap.size w w'):MpT w' b n M:=
 h.kept (row:=none) ⟨hb.os,hb.tape,hb.output,hb.size,fun k hk _=>hb.block k hk⟩ (by simp)
theorem zeroT (w:World):(zeroValue 268).run Tryz.prog w= .ok (.agg #[.string ⟨#[]⟩]) w:=by kernel_rfl
section
variable {ops:Array Oper} {rest:List Oper} {o:Oper} {a:Act} {Q:Exit→Act→World→Prop} {w:World} {b n:Nat} {M:UInt8→UInt8→Option (List UInt8)}
theorem ZjS (hg:o.guard=none)(m x:Operand)(hop:o.op=Op.lookup 265 m x true)(h:MpT w b n M)(hm:a.eval m= .map (some b))(p q:UInt8)(hx:a.eval x= .agg #[.int .u8 p.toNat,.int .u8 q.toNat])
 (hK:∀t:List UInt8,(∀k,M p q=some k→t=k)→wpList Tryz.prog ops Q rest (a.put o.dst (.tuple #[.agg #[.string (B t)],.bool (M p q).isSome])) w):
 wpList Tryz.prog ops Q (o::rest) a w:=by
 obtain⟨D,h1,h2,h3⟩:=h;refine wpList_lookup_own_ok w hg m x 265 hop 266 268 law2u Tryz.underlying265 Zd8 (zeroT _) (.lit (.string [])) [] rfl b n D hm h1 _ (.string [p,q]) hx (Zjz p q) ?_;intro v ps hv;rw [←h2];obtain⟨s,rfl,hz⟩:=ZqJ hv;have:=hK s.data.toList (fun k hk=>by
  have e:=h3 p q k hk (.lit (.string []));rw [Prod.mk.injEq] at hz;rw [hz.1] at e;simpa using e)
 rw [←Zca] at this;exact this
theorem ZjT (hg:o.guard=none)(m x v:Operand)(hop:o.op=Op.mapUpdate 265 m x v)(h:MpT w b n M)(hm:a.eval m= .map (some b))(p q:UInt8)(hx:a.eval x= .agg #[.int .u8 p.toNat,.int .u8 q.toNat])(t:List UInt8)(hv:a.eval v= .agg #[.string (B t)])(hn:n≤10000000)
 (hK:∀w',MpT w' b (n+1) (fun x y=>if x=p∧y=q then some t else M x y)→w.grownBy w' (some b)→wpList Tryz.prog ops Q rest (a.put o.dst undef) w'):
 wpList Tryz.prog ops Q (o::rest) a w:=by
 obtain⟨D,h1,h2,h3⟩:=h;have hr:Zd8 (.agg #[.string (B t)])=some (.lit (.string t),[]):=by
  show some ((.lit (.string (B t).data.toList):DataW Unit),([]:List MemPlace))=_
  rw [Zbw]
 refine wpList_mapUpdate_own _ hg m x v 265 hop 266 268 law2u Tryz.underlying265 _ b n D hm h1 (by unfold maxLen;omega) _ _ (.string [p,q]) hx hv (Zjz p q) _ [] hr ?_;intro w' h4 h5;have hD:IsMap D:=by obtain⟨es,cl,_,_,_,rfl⟩:=h1;exact⟨_,rfl⟩
 refine hK w' ⟨_,h4,fun x y=> ?_,fun x y k hk z=> ?_⟩ h5
 · show(if x=p∧y=q then some t else M x y).isSome=_
   by_cases e:x=p∧y=q
   · obtain⟨rfl,rfl⟩:=e;rw [if_pos ⟨rfl,rfl⟩,has_put_same hD (show WideAt.IsKeyLit (.string [x,y]) from trivial)];rfl
   · rw [if_neg e,h2,has_put_other (by simpa using e)]
 · have hk:(if x=p∧y=q then some t else M x y)=some k:=hk;by_cases e:x=p∧y=q
   · obtain⟨rfl,rfl⟩:=e;rw [if_pos ⟨rfl,rfl⟩] at hk;injection hk with hk;subst hk;exact atKey_put_same hD (show WideAt.IsKeyLit (.string [x,y]) from trivial) _ _
   · rw [if_neg e] at hk;rw [atKey_put_other (by simpa using e)];exact h3 x y k hk z
end
end Go.Proofs.YtnbkfkbcpfkddaaGreatDoor
namespace Go.Proofs.YtnbkfkbcpfkddaaGreatDoor
open Go Go.RowKit
def v0 (z:Int):Int:=if z= -2 then 0 else z
def g0 (z:Int):Bool:=decide (z≠ -2)
def behind (s:ByteArray):ByteArray:=s.extract 2 s.size
end Go.Proofs.YtnbkfkbcpfkddaaGreatDoor
