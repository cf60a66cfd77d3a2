/- Lemmas for a statement on the tops; conditions: as each says. -/
import Derived.Laws.Tables
import Derived.Deep.WholeRow
import Derived.Deep.QuietTactic
import Derived.BigQuiet
import Derived.Test.YtlfinljfghhpdaaGreatDoorM3
import Derived.Test.YtlfinljfghhpdaaGreatDoorM15
set_option linter.unusedVariables false
set_option linter.unusedSimpArgs false
set_option maxRecDepth 100000
set_option maxHeartbeats 1000000
namespace Go.Proofs.YtlfinljfghhpdaaGreatDoor
open Go Go.RowKit
theorem cnt_le (b:Bool)(n:Nat):cnt b n≤n:=by
 have:=Zdj n;cases b<;>omega
def RRRel (n:Nat)(w0:World)(k i:Value)(wr:World):Prop:=∃m:Nat,m≤n∧i= .int .i64 m∧k= .int .i64 (cnt (Zn n) m)∧Below w0.heap.size w0 wr
theorem Zpf (n:Nat)(hn:n<11172)(w:World):
 Calls Tryz.prog 53 #[.int .i64 n] w fun e w'=>e= .returned (.int .i64 (cnt (Zn n) n))∧Below w.heap.size w w':=by
 have hq:=fun w=>Zgv n hn w;go_enter Tryz.func53,Tryz.ntmps53
 go_wp2_with fail
 go_loopw [3,4] (fun k i wr=>RRRel n w k i wr) (fun _ i _=>n - (intOf i).toNat)
 case atStart=>exact⟨0,by omega,rfl,rfl,Below.refl _ _⟩
 case round=>
  obtain⟨m,hm,rfl,rfl,hb⟩:=hrel;by_cases hlt:m<n
  · have hs:Hid (cnt (Zn n) (m+1)=cnt (Zn n) m+(if Zn m=Zn n then 1 else 0)):=rfl;have hp:=fun w=>Zgv m (by omega) w;have hcl:=cnt_le (Zn n) m;generalize hc1:cnt (Zn n) (m+1)=c1 at*;have Hc1:=Lib.hid hc1;clear hc1;generalize cnt (Zn n) m=c0 at*;by_cases he:Zn m=Zn n
    · have Hs:=Lib.hid (show c1=c0+1 by rw [hs.out,if_pos he]);clear hs;rw [he] at hp;generalize hbq:Zn n=b at*;have Hb:=Lib.hid hbq;clear he hbq;go_wp2_with (first|(go_at_call 54;first|(refine(hp _).mono ?_;clear hp;rintro e w1 ⟨rfl,hb1⟩)|(refine(hq _).mono ?_;clear hq;rintro e w2 ⟨rfl,hb2⟩)))
      go_roundw
      case rel=>exact⟨m+1,by omega,by go_num,by rw [Hb.out,Hc1.out,Hs.out];congr 1,(hb.trans (hb1.mono hb.size)).trans (hb2.mono (Nat.le_trans hb.size hb1.size))⟩
      case measure=>simp [intOf];omega
    · have Hs:=Lib.hid (show c1=c0 by rw [hs.out,if_neg he];rfl);clear hs;have hbb:(Zn m==Zn n)=false:=by simpa using he
      generalize Zn m=a at*;generalize hbq:Zn n=b at*;have Hb:=Lib.hid hbq;clear hbq;go_wp2_with (first|(go_at_call 54;first|(refine(hp _).mono ?_;clear hp;rintro e w1 ⟨rfl,hb1⟩)|(refine(hq _).mono ?_;clear hq;rintro e w2 ⟨rfl,hb2⟩)))
      go_roundw
      case rel=>exact⟨m+1,by omega,by go_num,by rw [Hb.out,Hc1.out,Hs.out],(hb.trans (hb1.mono hb.size)).trans (hb2.mono (Nat.le_trans hb.size hb1.size))⟩
      case measure=>simp [intOf];omega
  · have hme:m=n:=by omega
    subst hme;go_wp2_with fail
    go_ret
    exact⟨rfl,hb⟩
def ZcQ (k:Nat)(b:Bool)(p:Int):Prop:=(∃n:Nat,n<11172∧Zn n=b∧cnt b n=k∧p=44032+n)∨(cnt b 11172≤k∧p=0)
end Go.Proofs.YtlfinljfghhpdaaGreatDoor
namespace Go.Proofs.YtlfinljfghhpdaaGreatDoor
open Go
def bsum (x:Nat):Nat→Nat
 |0=>0
 |r+1=>bsum x r+x / 2^r % 2
theorem Zl7 (x:Nat):∀r,r≤64→Lib.onesCount (x % 2^r)=bsum x r
 |0,_=>by simp [Nat.mod_one,ZeF,bsum]
 |r+1,h=>by
  rw [ZeE r x (by omega),Zl7 x r (by omega)];rfl
def ZfX (x:Nat):Nat:=x % 2+x / 2 % 2+x / 4 % 2+x / 8 % 2+x / 16 % 2+x / 32 % 2+x / 64 % 2+x / 128 % 2+x / 256 % 2+x / 512 % 2+x / 1024 % 2+x / 2048 % 2+x / 4096 % 2+x / 8192 % 2+x / 16384 % 2+x / 32768 % 2+x / 65536 % 2+x / 131072 % 2+x / 262144 % 2+x / 524288 % 2+x / 1048576 % 2+x / 2097152 % 2+x / 4194304 % 2+x / 8388608 % 2+x / 16777216 % 2+x / 33554432 % 2+x / 67108864 % 2+x / 134217728 % 2
theorem ZsP (x:Nat)(h:x<2^28):Lib.onesCount x=ZfX x:=by
 have e:=Zl7 x 28 (by omega);rw [Nat.mod_eq_of_lt h] at e;rw [e];simp only [bsum,ZfX,Nat.zero_add,Nat.pow_zero,Nat.div_one]
def ZdG:List Nat→Nat
 |[]=>0
 |x::l=>ZfX x+ZdG l
theorem Zuc:Nat.beq (ZdG G) 2350=true:=by decide+kernel
theorem Zud (l:List Nat)(x:Nat):ZdG (l++[x])=ZdG l+ZfX x:=by
 induction l with
 |nil=>simp [ZdG]
 |cons y l ih=>simp only [List.cons_append,ZdG,ih];rw [Nat.add_assoc]
theorem Zko:∀m,m≤399→cnt true (28*m)=ZdG (G.take m)
 |0,_=>rfl
 |m+1,h=>by
  have hl:=Ze7;rw [Zg2 m,Zko m (by omega),List.take_succ_eq_append_getElem (by omega),Zud,ZsP _ (ZbM m)];have:gr m=G[m]'(by omega):=by unfold gr;rw [List.getD_eq_getElem?_getD,List.getElem?_eq_getElem (by omega)];rfl
  rw [this]
theorem Zeq:cnt true 11172=2350:=by
 have h:=Zko 399 (by omega);rw [List.take_of_length_le (by rw [Ze7];omega)] at h;exact h.trans (Nat.eq_of_beq_eq_true Zuc)
theorem Zer:cnt false 11172=8822:=by
 have:=Zdj 11172;rw [Zeq] at this;omega
theorem ZqP (b:Bool):cnt b 11172=if b then 2350 else 8822:=by
 cases b
 · exact Zer
 · exact Zeq
theorem Zcb {b:Bool} {m n:Nat} (h:m<n)(hm:Zn m=b):cnt b m<cnt b n:=by
 have h1:cnt b (m+1)=cnt b m+1:=by simp [cnt,hm]
 have h2:=ZqO b (show m+1≤n by omega);omega
theorem Zlu {k:Nat} {b:Bool} {p q:Int} (h1:ZcQ k b p)(h2:ZcQ k b q):p=q:=by
 rcases h1 with⟨m,a1,a2,a3,rfl⟩|⟨a1,rfl⟩<;>rcases h2 with⟨n,b1,b2,b3,rfl⟩|⟨b1,rfl⟩
 · have hmn:m=n:=by
    rcases Nat.lt_trichotomy m n with h|h|h
    · have:=Zcb h a2;omega
    · exact h
    · have:=Zcb h b2;omega
   rw [hmn]
 · have:=Zcb (show m<11172 by omega) a2;omega
 · have:=Zcb (show n<11172 by omega) b2;omega
 · rfl
theorem Zr0 {n:Nat} {p:Int} (hn:n<11172)(h:ZcQ (cnt (Zn n) n) (Zn n) p):p=44032+n:=
 Zlu h (.inl ⟨n,hn,rfl,rfl,rfl⟩)
theorem kth_ne {k:Nat} {b:Bool} {p:Int} (h:ZcQ k b p):(p≠0)↔k<cnt b 11172:=by
 rcases h with⟨m,a1,a2,a3,rfl⟩|⟨a1,rfl⟩
 · have:=Zcb (show m<11172 by omega) a2;constructor<;>intro<;>omega
 · constructor<;>intro h<;>omega
theorem ZkN (pc bit:Nat→Nat)(h0:pc 0=0)(hs:∀r,r<28→pc (r+1)=pc r+bit r)(hb:∀r,bit r=0∨bit r=1)(k:Nat):∀r,r≤28→k<pc r→∃r',r'<r∧bit r'=1∧pc r'=k
 |0,_,h=>by rw [h0] at h;exact absurd h (Nat.not_lt_zero _)
 |r+1,hr,h=>by
  have h1:=hs r (by omega);have h2:=hb r;by_cases hk:k<pc r
  · obtain⟨r',a,b,c⟩:=ZkN pc bit h0 hs hb k r (by omega) hk;exact⟨r',by omega,b,c⟩
  · exact⟨r,by omega,by omega,by omega⟩
theorem bit01 (x r:Nat):x / 2^r % 2=0∨x / 2^r % 2=1:=by omega
theorem ZsM (x k:Nat)(h:k<Lib.onesCount (x % 2^28)):∃r',r'<28∧x / 2^r' % 2=1∧Lib.onesCount (x % 2^r')=k:=
 ZkN (fun r=>Lib.onesCount (x % 2^r)) (fun r=>x / 2^r % 2) (by show Lib.onesCount (x % 2^0)=0;rw [Nat.pow_zero,Nat.mod_one,ZeF]) (fun r hr=>ZeE r x (Nat.lt_trans hr (by decide))) (bit01 x) k 28 (Nat.le_refl _) h
theorem Zkl:∀(j x:Nat),Zar x (j+1)=Zar x j&&&(Zar x j - 1)
 |0,_=>rfl
 |j+1,x=>Zkl j (x&&&(x - 1))
theorem Zg0:∀(j x:Nat),x<2^28→Zar x j<2^28
 |0,_,h=>h
 |j+1,_,h=>Zg0 j _ (Nat.lt_of_le_of_lt Nat.and_le_left h)
theorem lt399 {g r:Nat} (hg:g<399)(hr:r<28):28*g+r<11172:=by omega
theorem p_eq (g r:Nat):(44032:Int)+28*g+(r:Int)=44032+((28*g+r:Nat):Int):=by omega
theorem pick (b:Bool)(g k:Nat)(hg:g<399)(hlo:cnt b (28*g)≤k)(hhi:k - cnt b (28*g)<Lib.onesCount (grp b g)):
 ZcQ k b (44032+28*g+Lib.ctz 32 (Zar (grp b g) (k - cnt b (28*g))))∧Lib.ctz 32 (Zar (grp b g) (k - cnt b (28*g)))<28:=by
 have hx:=Zhw b g;obtain⟨r,hr,hb,ho⟩:=ZsM (grp b g) (k - cnt b (28*g)) (by rw [Nat.mod_eq_of_lt hx];exact hhi);have hs:=sel (grp b g) r hx hb;rw [ho] at hs;rw [hs];refine⟨.inl ⟨28*g+r,lt399 hg hr,(ZrL b g r hr).2 hb,?_,p_eq g r⟩,hr⟩;rw [Zkm b g r (Nat.le_of_lt hr),ho,Nat.add_sub_cancel' hlo]
def LA1:List Int:=[
 12288,12289,12290,183,8229,8230,168,12291,173,8213,8741,65340,8764,8216,8217,8220,8221,12308,12309,12296,
 12297,12298,12299,12300,12301,12302,12303,12304,12305,177,215,247,8800,8804,8805,8734,8756,176,8242,8243,
 8451,8491,65504,65505,65509,9794,9792,8736,8869,8978,8706,8711,8801,8786,167,8251,9734,9733,9675,9679,
 9678,9671,9670,9633,9632,9651,9650,9661,9660,8594,8592,8593,8595,8596,12307,8810,8811,8730,8765,8733,
 8757,8747,8748,8712,8715,8838,8839,8834,8835,8746,8745,8743,8744,65506]
def LA2:List Int:=[
 8658,8660,8704,8707,180,65374,711,728,733,730,729,184,731,161,191,720,8750,8721,8719,164,
 8457,8240,9665,9664,9655,9654,9828,9824,9825,9829,9831,9827,8857,9672,9635,9680,9681,9618,9636,9637,
 9640,9639,9638,9641,9832,9743,9742,9756,9758,182,8224,8225,8597,8599,8601,8598,8600,9837,9833,9834,
 9836,12927,12828,8470,13255,8482,13250,13272,8481,8364,174]
def LA6:List Int:=[
 9472,9474,9484,9488,9496,9492,9500,9516,9508,9524,9532,9473,9475,9487,9491,9499,9495,9507,9523,9515,
 9531,9547,9504,9519,9512,9527,9535,9501,9520,9509,9528,9538,9490,9489,9498,9497,9494,9493,9486,9485,
 9502,9503,9505,9506,9510,9511,9513,9514,9517,9518,9521,9522,9525,9526,9529,9530,9533,9534,9536,9537,
 9539,9540,9541,9542,9543,9544,9545,9546]
def SPN:List (Int×Int×Int):=[(41889,65281,59),(41948,65510,1),(41949,65341,33),(41982,65507,1),(42145,12593,94),(42401,8560,10),(42416,8544,10),(42433,913,17),(42450,931,7),(42465,945,17),(42482,963,7),(43681,12353,83),(43937,12449,86),(44193,1040,6),(44199,1025,1),(44200,1046,26),(44241,1072,6),(44247,1105,1),(44248,1078,26)]
def Zr (lead:Int):List Int:=if lead=161 then LA1 else if lead=162 then LA2 else if lead=166 then LA6 else []
def ZaV:List (Int×Int×Int)→Int→Int
 |[],_=>0
 |(c,t,n)::l,code=>if c≤code∧code<c+n then t+(code - c) else ZaV l code
def spanC:List (Int×Int×Int)→Int→Int
 |[],_=> -1
 |(c,t,n)::l,p=>if t≤p∧p - t<n then c+(p - t) else spanC l p
def Zb2 (lead b:Int):Int:=if b<161∨254<b then 0 else if(Zr lead).isEmpty then ZaV SPN (lead*256+b) else(Zr lead).getD (b - 161).toNat 0
def codeW (p:Int):Int:=if 0≤fnd LA1 p then 41377+fnd LA1 p else if 0≤fnd LA2 p then 41633+fnd LA2 p else if 0≤fnd LA6 p then 42657+fnd LA6 p else spanC SPN p
def Zo (b fr la p:Int):Int:=if b<fr∨la<b then 0 else p+(b - fr)
def Zb3 (lead b:Int):Int:=
 if lead=161 then LA1.getD (b - 161).toNat 0 else if lead=162 then(if b - 161<71 then LA2.getD (b - 161).toNat 0 else 0)
 else if lead=163 then(if b=220 then 65510 else if b=254 then 65507 else 65281+b - 161)
 else if lead=164 then 12593+b - 161
 else if lead=165 then Zo b 161 170 8560+Zo b 176 185 8544+Zo b 193 209 913+Zo b 210 216 931+Zo b 225 241 945+Zo b 242 248 963
 else if lead=166 then(if b - 161<68 then LA6.getD (b - 161).toNat 0 else 0)
 else if lead=170 then Zo b 161 243 12353
 else if lead=171 then Zo b 161 246 12449
 else if lead=172 then Zo b 161 166 1040+Zo b 167 167 1025+Zo b 168 193 1046+Zo b 209 214 1072+Zo b 215 215 1105+Zo b 216 241 1078
 else 0
def eqI (a b:Int):Bool:=match a,b with
 | .ofNat m,.ofNat n=>Nat.beq m n
 | .negSucc m,.negSucc n=>Nat.beq m n
 |_,_=>false
theorem eqI_eq {a b:Int} (h:eqI a b=true):a=b:=by
 cases a<;>cases b<;>simp only [eqI,Bool.false_eq_true] at h
 · rw [Nat.eq_of_beq_eq_true h]
 · rw [Nat.eq_of_beq_eq_true h]
def ZgT:List Int:=(List.range 94).map fun i=>Int.ofNat (i+161)
def ZhM:List Int:=(List.range 12).map fun i=>Int.ofNat (i+161)
theorem Zsp {b:Int} (h:161≤b∧b≤254):b∈ZgT:=by
 unfold ZgT;rw [List.mem_map];exact⟨(b - 161).toNat,List.mem_range.2 (by omega),by show((_:Nat):Int)=b;omega⟩
theorem Zsq {b:Int} (h:161≤b∧b≤172):b∈ZhM:=by
 unfold ZhM;rw [List.mem_map];exact⟨(b - 161).toNat,List.mem_range.2 (by omega),by show((_:Nat):Int)=b;omega⟩
theorem Ztj:ZhM.all (fun l=>ZgT.all fun b=>eqI (Zb2 l b) (Zb3 l b))=true:=by decide+kernel
theorem Zt0:SPN.all (fun s=>decide (161≤s.1 / 256)&&decide (s.1 / 256≤172)&&decide (161≤s.1 % 256)&&decide (s.1 % 256+s.2.2≤255)&&decide (0<s.2.1)&&decide (s.2.1+s.2.2≤65536)&&decide (0<s.2.2))=true:=by decide+kernel
theorem ZfI:LA1.length=94∧LA2.length=71∧LA6.length=68:=by decide+kernel
theorem Zs6:(LA1++LA2++LA6).all (fun p=>decide (0<p)&&decide (p≤65535))=true:=by decide+kernel
end Go.Proofs.YtlfinljfghhpdaaGreatDoor
namespace Go.Proofs.YtlfinljfghhpdaaGreatDoor
open Go Go.RowKit
def DB (w:World):Prop:=TabAt 4 Lib.deBruijn32tab w
theorem ZdI {w w':World} {B:Nat} (h:DB w)(hb:Below B w w')(hB:w.heap.size≤B):DB w':=fun j hj=>
 (hb.cell (p:=⟨_,j,none⟩) (Nat.lt_of_lt_of_le (World.block_lt_of_cell? _ _ (h j hj)) hB)).trans (h j hj)
def Zjc (k:Nat)(b:Bool)(w0:World)(e:Ending)(w':World):Prop:=∃p,e= .returned (.tuple #[.int .i32 p,.bool (p !=0)])∧ZcQ k b p∧Below w0.heap.size w0 w'
theorem Zn1 (k:Int)(hk:k<0)(b:Bool)(w:World):
 Calls Tryz.prog 386 #[.int .i64 k,.bool b] w fun e w'=>e= .returned (.tuple #[.int .i32 0,.bool false])∧Below w.heap.size w w':=by
 go_enter Tryz.func386,Tryz.ntmps386
 go_wp2_with fail
 go_ret2
 exact⟨rfl,Below.refl _ _⟩
theorem ZqA (a b:Nat)(ha:a<4294967296)(hb:b<4294967296):bits .xor .u32 (a:Int) (b:Int)=((a^^^b:Nat):Int):=by
 have hx:a^^^b<2^32:=Nat.xor_lt_two_pow (by omega) (by omega);have h1:(BitVec.ofInt 32 (a:Int)).toNat=a:=by
  rw [BitVec.ofInt_natCast,BitVec.toNat_ofNat];exact Nat.mod_eq_of_lt (by omega)
 have h2:(BitVec.ofInt 32 (b:Int)).toNat=b:=by
  rw [BitVec.ofInt_natCast,BitVec.toNat_ofNat];exact Nat.mod_eq_of_lt (by omega)
 show IntKind.u32.wrap ((BitVec.ofInt 32 (a:Int)^^^BitVec.ofInt 32 (b:Int)).toNat:Int)=_
 rw [BitVec.toNat_xor,h1,h2,wrap_u32'];omega
theorem xor28 (x:Nat)(hx:x<2^28):bits .xor .u32 (x:Int) 268435455=((comp x:Nat):Int):=by
 rw [←ZqT x hx];exact ZqA x 268435455 (by omega) (by omega)
theorem grp_in (g:Nat):gr g=grp true g:=rfl
theorem ZrM (g:Nat):bits .xor .u32 (gr g:Int) 268435455=((grp false g:Nat):Int):=xor28 _ (ZbM g)
theorem ZsO (x:Nat)(h:x<2^28):Lib.onesCount x≤28:=by
 have h3:=Zg5 x 28 h (Nat.le_refl _);rw [Nat.mod_eq_of_lt h] at h3;exact Nat.le.intro (by rw [Nat.add_comm];exact h3)
theorem Tz_any (x:Nat)(hx:x<4294967296)(w:World)(hD:DB w):
 Calls Tryz.prog 404 #[.int .u32 x] w fun e w'=>e= .returned (.int .i64 (Lib.ctz 32 x))∧Below w.heap.size w w':=
 (Any7.bits_TrailingZeros32 Tryz.lays7n28 x hx w fun _=>hD).mono fun _ _ h=>⟨h.1,by rw [h.2];exact Below.refl _ _⟩
theorem Zj0 (n:Nat)(hn:n<2^28):bits .and .u32 (n:Int) (((n:Int) - 1) % 4294967296)=((n&&&(n - 1):Nat):Int):=by
 by_cases h0:n=0
 · subst h0;decide
 · rw [show((n:Int) - 1) % 4294967296=((n - 1:Nat):Int) by omega,bits_and_u32_nat n _ (by omega) (by omega)]
def ChRel (k:Nat)(b:Bool)(w0:World)(kv g:Value)(wr:World):Prop:=∃m:Nat,m≤399∧g= .int .i64 m∧cnt b (28*m)≤k∧kv= .int .i64 ((k - cnt b (28*m):Nat):Int)∧Below w0.heap.size w0 wr
def ChIn (x k:Nat)(kv n:Value):Prop:=∃j:Nat,j≤k∧kv= .int .i64 ((k - j:Nat):Int)∧n= .int .u32 ((Zar x j:Nat):Int)
theorem Zn0 (k:Nat)(hk:k≤9223372036854775807)(b:Bool)(w:World)(hD:DB w):
 Calls Tryz.prog 386 #[.int .i64 k,.bool b] w (Zjc k b w):=by
 generalize hP:Zjc k b w=P at*;go_enter Tryz.func386,Tryz.ntmps386
 go_wp2_with fail
 go_loopw [0,6] (fun kv g wr=>ChRel k b w kv g wr) (fun _ g _=>399 - (intOf g).toNat)
 case atStart=>exact⟨0,by omega,rfl,by simp [cnt],by simp [cnt],Below.refl _ _⟩
 case round=>
  obtain⟨m,hm,rfl,hlo,rfl,hb⟩:=hrel;by_cases hlt:m<399
  · have hgrp:=fun w=>Zgu m hlt w;have hnx:=ZqM b m;have hpk:=pick b m k hlt hlo;have hx:=Zhw b m;have ho28:=ZsO _ hx;have hgi:=grp_in m;have hgo:=ZrM m;have hones:=fun w=>ZgC (grp b m) (by omega) w;have hTz:=fun j w=>Tz_any (Zar (grp b m) j) (Nat.lt_trans (Zg0 j _ hx) (by decide)) w;have hlt28:=fun j=>Zg0 j _ hx;have hsc:=fun j=>Zkl j (grp b m);generalize hon:Lib.onesCount (grp b m)=o at*;have hr:k - cnt b (28*m)≤9223372036854775807:=by omega
    have hnx2:k - cnt b (28*m)≥o→k - cnt b (28*(m+1))=k - cnt b (28*m) - o∧cnt b (28*(m+1))≤k:=by omega
    clear hnx hon;generalize k - cnt b (28*m)=r at*;by_cases hc:o≤r
    · have Hn:=Lib.hid (hnx2 hc);clear hnx2 hpk hTz hlt28 hsc;cases b
      · generalize grp false m=x at*;clear hgi;go_wp2_with (first|(go_at_call 391;refine(hgrp _).mono ?_;rintro e w1 ⟨rfl,hb1⟩)|(go_at_call 390;refine(hones _).mono ?_;rintro e w2 ⟨rfl,hb2⟩))
        go_roundw
        case rel=>exact⟨m+1,by omega,by go_num,Hn.out.2,by rw [Hn.out.1,show((r - o:Nat):Int)=(r:Int) - o by omega],(hb.trans (hb1.mono hb.size)).trans (hb2.mono (Nat.le_trans hb.size hb1.size))⟩
        case measure=>simp [intOf];omega
      · rw [←hgi] at hones;clear hgi hgo;go_wp2_with (first|(go_at_call 391;refine(hgrp _).mono ?_;rintro e w1 ⟨rfl,hb1⟩)|(go_at_call 390;refine(hones _).mono ?_;rintro e w2 ⟨rfl,hb2⟩))
        go_roundw
        case rel=>exact⟨m+1,by omega,by go_num,Hn.out.2,by rw [Hn.out.1,show((r - o:Nat):Int)=(r:Int) - o by omega],(hb.trans (hb1.mono hb.size)).trans (hb2.mono (Nat.le_trans hb.size hb1.size))⟩
        case measure=>simp [intOf];omega
    · have Hpk:=Lib.hid (hpk (by omega));clear hnx2 hpk;cases b
      · generalize grp false m=x at*;clear hgi;go_wp2_with (first|(go_at_call 391;refine(hgrp _).mono ?_;rintro e w1 ⟨rfl,hb1⟩)|(go_at_call 390;refine(hones _).mono ?_;rintro e w2 ⟨rfl,hb2⟩))
        have hB:=(hb.trans (hb1.mono hb.size)).trans (hb2.mono (Nat.le_trans hb.size hb1.size));have hD2:=ZdI hD hB (Nat.le_refl _);clear hgrp hones hb1 hb2 hb hD;go_loop [0,7] (fun kv n=>ChIn x r kv n) (fun kv _=>(intOf kv).toNat)
        case atStart=>exact⟨0,by omega,by simp,rfl⟩
        case round=>
         obtain⟨j,hj,rfl,rfl⟩:=hrel;by_cases hjr:j<r
         · have hd:=Zj0 (Zar x j) (hlt28 j);have hs:=Lib.hid (hsc j);generalize Zar x j=y at*;generalize hrj:r - j=q at*;clear hsc hTz hlt28 Hpk;have hq:0<q:=by omega
           have hq2:q≤1000000:=by omega
           go_wp2_with fail
           go_round
           case rel=>exact⟨j+1,by omega,by rw [show((r - (j+1):Nat):Int)=(q:Int) - 1 by omega],by rw [hs.out]⟩
           case measure=>simp [intOf];omega
         · have hje:j=r:=by omega
           subst hje;have htz:=hTz j;have hct:Lib.ctz 32 (Zar x j)<28:=Hpk.out.2;have Hp:=Lib.hid Hpk.out.1;clear Hpk hsc hTz hlt28 hjr;rw [Nat.sub_self];generalize Zar x j=y at*;generalize Lib.ctz 32 y=z at*;go_wp2_with (first|(go_at_call 404;refine(htz _ hD2).mono ?_;rintro e w3 ⟨rfl,hb3⟩))
           have hne:((44032+28*(m:Int)+(z:Int)) !=0)=true:=by simp;omega
           have he:(44032+(m:Int)*28+(z:Int))=44032+28*(m:Int)+(z:Int):=by omega
           show P (.returned (.tuple #[.int .i32 (44032+(m:Int)*28+(z:Int)),.bool true])) w3
           rw [←hP,he];exact⟨_,by rw [hne],Hp.out,hB.trans (hb3.mono hB.size)⟩
      · rw [←hgi] at hones hTz hlt28 hsc Hpk;clear hgi hgo;generalize gr m=x at*;go_wp2_with (first|(go_at_call 391;refine(hgrp _).mono ?_;rintro e w1 ⟨rfl,hb1⟩)|(go_at_call 390;refine(hones _).mono ?_;rintro e w2 ⟨rfl,hb2⟩))
        have hB:=(hb.trans (hb1.mono hb.size)).trans (hb2.mono (Nat.le_trans hb.size hb1.size));have hD2:=ZdI hD hB (Nat.le_refl _);clear hgrp hones hb1 hb2 hb hD;go_loop [0,7] (fun kv n=>ChIn x r kv n) (fun kv _=>(intOf kv).toNat)
        case atStart=>exact⟨0,by omega,by simp,rfl⟩
        case round=>
         obtain⟨j,hj,rfl,rfl⟩:=hrel;by_cases hjr:j<r
         · have hd:=Zj0 (Zar x j) (hlt28 j);have hs:=Lib.hid (hsc j);generalize Zar x j=y at*;generalize hrj:r - j=q at*;clear hsc hTz hlt28 Hpk;have hq:0<q:=by omega
           have hq2:q≤1000000:=by omega
           go_wp2_with fail
           go_round
           case rel=>exact⟨j+1,by omega,by rw [show((r - (j+1):Nat):Int)=(q:Int) - 1 by omega],by rw [hs.out]⟩
           case measure=>simp [intOf];omega
         · have hje:j=r:=by omega
           subst hje;have htz:=hTz j;have hct:Lib.ctz 32 (Zar x j)<28:=Hpk.out.2;have Hp:=Lib.hid Hpk.out.1;clear Hpk hsc hTz hlt28 hjr;rw [Nat.sub_self];generalize Zar x j=y at*;generalize Lib.ctz 32 y=z at*;go_wp2_with (first|(go_at_call 404;refine(htz _ hD2).mono ?_;rintro e w3 ⟨rfl,hb3⟩))
           have hne:((44032+28*(m:Int)+(z:Int)) !=0)=true:=by simp;omega
           have he:(44032+(m:Int)*28+(z:Int))=44032+28*(m:Int)+(z:Int):=by omega
           show P (.returned (.tuple #[.int .i32 (44032+(m:Int)*28+(z:Int)),.bool true])) w3
           rw [←hP,he];exact⟨_,by rw [hne],Hp.out,hB.trans (hb3.mono hB.size)⟩
  · have hme:m=399:=by omega
    subst hme;have Hle:=Lib.hid hlo;clear hlt hlo;go_wp2_with fail
    show P (.returned (.tuple #[.int .i32 0,.bool false])) wr
    rw [←hP];exact⟨_,rfl,.inr ⟨Hle.out,rfl⟩,hb⟩
theorem ZhB {x y:Int} (hy₀:0≤y)(hy:y<16)(hx₀:0≤x)(hx:x<134217728):bits .or .i32 (x*16) y=x*16+y:=
 bits_join .i32 31 (by decide) (fun n h0 h1=>by simp [IntKind.wrap,IntKind.bits,IntKind.signed];omega) 4 (x*16) y (by omega) (by omega) (by omega) hy₀ hy (by omega)
def Zcu (s:ByteArray)(ps:List Int):Prop:=s.data.toList=Zcf ps∧ZjS ps
theorem Zcu.size {s:ByteArray} {ps:List Int} (h:Zcu s ps):s.size=5*ps.length:=by
 rw [←Zlg,←h.1];simp
theorem Zcu.digit {s:ByteArray} {ps:List Int} (h:Zcu s ps){k j m:Nat} (hm:m=5*k)(hk:k<ps.length)(hj:j<5)(hi:m+j<s.size):(Zbv (ps.getD k 0))[j]? =some s[m+j]:=by
 subst hm;rw [←Zlf ps k j hk hj,←h.1];have hl:5*k+j<s.data.toList.length:=by simpa using hi
 rw [List.getElem?_eq_getElem hl];rfl
theorem Ze3 (d:Int)(c:UInt8)(hd:0≤d∧d<16)(hc:c=Zce d)(w:World):
 Calls Tryz.prog 290 #[.string ⟨#[48,49,50,51,52,53,54,55,56,57,65,66,67,68,69,70]⟩,.int .u8 (c.toNat:Int)] w fun e w'=>e= .returned (.int .i64 d)∧w=w':=by
 refine(Tryz.strings_IndexByte _ _ w).mono ?_;rintro e w' ⟨rfl,rfl⟩;refine⟨Za4 ?_,rfl⟩;have e1:((c.toNat:Int)).toNat.toUInt8=c:=Z6 rfl;rw [e1,hc];exact Zle hd.1 hd.2
theorem ZnQ (s:ByteArray)(ps:List Int)(h:Zcu s ps)(k:Int)(hk:k<0∨ps.length≤k)(hs:s.size≤100000)(hkb: -100000≤k∧k≤100000)(w:World):
 Calls Tryz.prog 403 #[.string s,.int .i64 k] w fun e w'=>e= .returned (.tuple #[.int .i32 0,.bool false])∧Below w.heap.size w w':=by
 have hsz:=h.size;have hdiv:(s.size:Int) / 5=ps.length:=by omega
 by_cases h0:k<0
 · go_enter Tryz.func403,Tryz.ntmps403
   go_wp2_with fail
   go_ret2
   exact⟨rfl,Below.refl _ _⟩
 · have h1:(s.size:Int) / 5≤k:=by omega
   clear hdiv;go_enter Tryz.func403,Tryz.ntmps403
   go_wp2_with fail
   go_ret2
   exact⟨rfl,Below.refl _ _⟩
theorem ZnP (s:ByteArray)(ps:List Int)(h:Zcu s ps)(k:Nat)(hk:k<ps.length)(hs:s.size≤100000)(w:World):
 Calls Tryz.prog 403 #[.string s,.int .i64 k] w fun e w'=>e= .returned (.tuple #[.int .i32 (ps.getD k 0),.bool true])∧Below w.heap.size w w':=by
 have hsz:=h.size;have hp:=h.2 _ (Zdo hk);have d0:=h.digit (j:=0) (m:=5*k) rfl hk (by omega) (by omega);have d1:=h.digit (j:=1) (m:=5*k) rfl hk (by omega) (by omega);have d2:=h.digit (j:=2) (m:=5*k) rfl hk (by omega) (by omega);have d3:=h.digit (j:=3) (m:=5*k) rfl hk (by omega) (by omega);generalize ps.getD k 0=p at*;obtain⟨q0,q1,q2,q3⟩:=Zke hp;simp [Zbv] at d0 d1 d2 d3;have D0:=fun w=>Ze3 (p / 4096) s[5*k] q0 d0.symm w;have D1:=fun w=>Ze3 (p / 256 % 16) s[5*k+1] q1 d1.symm w;have D2:=fun w=>Ze3 (p / 16 % 16) s[5*k+2] q2 d2.symm w;have D3:=fun w=>Ze3 (p % 16) s[5*k+3] q3 d3.symm w;obtain⟨q00,q01⟩:=q0;obtain⟨q10,q11⟩:=q1;obtain⟨q20,q21⟩:=q2;obtain⟨q30,q31⟩:=q3;have hge:¬(s.size:Int) / 5≤k:=by omega
 have hm':(k:Int)*5=5*(k:Int):=by omega
 have hmb:5*k+3<s.size:=by omega
 have hA1:(5*(k:Int)+1).toNat=5*k+1:=by omega
 have hA2:(5*(k:Int)+1+1).toNat=5*k+2:=by omega
 have hA3:(5*(k:Int)+1+1+1).toNat=5*k+3:=by omega
 clear d0 d1 d2 d3 h;go_enter Tryz.func403,Tryz.ntmps403
 go_wp2_with fail
 refine wp_loop_rounds 5 ?_;rw [rounds_succ];go_wp2_with (first|(go_at_call 290;first|(refine(D0 _).mono ?_;clear D0;rintro e w' ⟨rfl,rfl⟩)|(refine(D1 _).mono ?_;clear D1;rintro e w' ⟨rfl,rfl⟩)|(refine(D2 _).mono ?_;clear D2;rintro e w' ⟨rfl,rfl⟩)|(refine(D3 _).mono ?_;clear D3;rintro e w' ⟨rfl,rfl⟩)))
 rw [rounds_succ];go_wp2_with (first|(go_at_call 290;first|(refine(D0 _).mono ?_;clear D0;rintro e w' ⟨rfl,rfl⟩)|(refine(D1 _).mono ?_;clear D1;rintro e w' ⟨rfl,rfl⟩)|(refine(D2 _).mono ?_;clear D2;rintro e w' ⟨rfl,rfl⟩)|(refine(D3 _).mono ?_;clear D3;rintro e w' ⟨rfl,rfl⟩)))
 rw [rounds_succ];go_wp2_with (first|(go_at_call 290;first|(refine(D0 _).mono ?_;clear D0;rintro e w' ⟨rfl,rfl⟩)|(refine(D1 _).mono ?_;clear D1;rintro e w' ⟨rfl,rfl⟩)|(refine(D2 _).mono ?_;clear D2;rintro e w' ⟨rfl,rfl⟩)|(refine(D3 _).mono ?_;clear D3;rintro e w' ⟨rfl,rfl⟩)))
 rw [rounds_succ];go_wp2_with (first|(go_at_call 290;first|(refine(D0 _).mono ?_;clear D0;rintro e w' ⟨rfl,rfl⟩)|(refine(D1 _).mono ?_;clear D1;rintro e w' ⟨rfl,rfl⟩)|(refine(D2 _).mono ?_;clear D2;rintro e w' ⟨rfl,rfl⟩)|(refine(D3 _).mono ?_;clear D3;rintro e w' ⟨rfl,rfl⟩)))
 rw [rounds_succ];go_wp2_with fail
 go_ret2
 refine⟨?_,Below.refl _ _⟩;have e:∀x:Int,x=p→Ending.returned (.tuple #[.int .i32 x,.bool true])= .returned (.tuple #[.int .i32 p,.bool true]):=fun x hx=>by rw [hx]
 refine e _ ?_;have f1:wrap32 ((p / 4096*16+p / 256 % 16)*16)=p / 256*16:=by unfold wrap32;omega
 have f2:wrap32 ((p / 256*16+p / 16 % 16)*16)=p / 16*16:=by unfold wrap32;omega
 rw [ZhB (by omega) (by omega) (by omega) (by omega),f1,ZhB (by omega) (by omega) (by omega) (by omega),f2,ZhB (by omega) (by omega) (by omega) (by omega)];omega
theorem ZhE {x y:Int} (hy₀:0≤y)(hy:y<256)(hx₀:0≤x)(hx:x<8388608):bits .or .i64 (x*256) y=x*256+y:=
 bits_join .i64 63 (by decide) (fun n h0 h1=>by simp [IntKind.wrap,IntKind.bits,IntKind.signed];omega) 8 (x*256) y (by omega) (by omega) (by omega) hy₀ hy (by omega)
def wB (l:Int):ByteArray:=⟨(Zcf (Zr l)).toArray⟩
theorem litW (l:Int)(d:Array UInt8)(h:ZcF d.toList (Zcf (Zr l))=true):ByteArray.mk d=wB l:=by
 have:=Zet _ _ h;unfold wB;rw [←this]
def Zdw:ByteArray:=⟨#[]⟩
theorem litN:ByteArray.mk #[]=Zdw:=rfl
theorem ZnA {l:Int} (h1:l≠161)(h2:l≠162)(h6:l≠166):wB l=Zdw:=by
 unfold wB Zr;rw [if_neg h1,if_neg h2,if_neg h6];rfl
theorem Zjs (l:Int)(hl:0≤l∧l≤255)(w:World):
 Calls Tryz.prog 397 #[.int .i64 l] w fun e w'=>e= .returned (.tuple #[.string (wB l),.int .i64 (l*256+161)])∧Below w.heap.size w w':=by
 obtain⟨l0,l1⟩:=hl;have hor:bits .or .i64 (l*256) 161=l*256+161:=ZhE (by omega) (by omega) l0 (by omega);have ho:=fun h1 h2 h6=>@ZnA l h1 h2 h6;refine calls_of_wp Tryz.func397 rfl ?_;rw [litN];rw [litW 161]
 rotate_left
 kernel_rfl
 rw [litW 162]
 rotate_left
 kernel_rfl
 rw [litW 166]
 rotate_left
 kernel_rfl
 simp only [Tryz.ntmps397,List.size_toArray,List.length_cons,List.length_nil,Nat.reduceAdd,Nat.reduceSub,Array.replicate_succ,Array.replicate_zero,List.push_toArray,List.append_toArray,List.nil_append,List.cons_append];by_cases h1:l=161
 · subst h1;generalize wB 161=s1;generalize wB 162=s2;generalize wB 166=s6;generalize Zdw=s0;go_wp2_with fail
   go_ret2
   exact⟨rfl,Below.refl _ _⟩
 by_cases h2:l=162
 · subst h2;generalize wB 161=s1;generalize wB 162=s2;generalize wB 166=s6;generalize Zdw=s0;go_wp2_with fail
   go_ret2
   exact⟨rfl,Below.refl _ _⟩
 by_cases h6:l=166
 · subst h6;generalize wB 161=s1;generalize wB 162=s2;generalize wB 166=s6;generalize Zdw=s0;go_wp2_with fail
   go_ret2
   exact⟨rfl,Below.refl _ _⟩
 rw [ho h1 h2 h6];clear ho;generalize wB 161=s1;generalize wB 162=s2;generalize wB 166=s6;generalize Zdw=s0;have e1:(l==161)=false:=by simp;omega
 have e2:(l==162)=false:=by simp;omega
 have e6:(l==166)=false:=by simp;omega
 go_wp2_with fail
 go_ret2
 exact⟨rfl,Below.refl _ _⟩
def spC (k:Nat):Int:=(SPN.getD k (0,0,0)).1
def spT (k:Nat):Int:=(SPN.getD k (0,0,0)).2.1
def spN (k:Nat):Int:=(SPN.getD k (0,0,0)).2.2
def ZcT (w:World)(bk:Nat):Prop:=∀k:Nat,k<19→w.cell? ⟨bk,k*3,none⟩=some (.int .i64 (spC k))∧w.cell? ⟨bk,k*3+1,none⟩=some (.int .i32 (spT k))∧w.cell? ⟨bk,k*3+2,none⟩=some (.int .i64 (spN k))
theorem ZcT.keep {w w':World} {bk B:Nat} (h:ZcT w bk)(hb:Below B w w')(hB:w.heap.size≤B):ZcT w' bk:=fun k hk=>by
 obtain⟨a,b,c⟩:=h k hk;have hl:=World.block_lt_of_cell? _ _ a;have hl2:bk<B:=Nat.lt_of_lt_of_le hl hB;exact⟨(hb.cell (p:=⟨bk,_,none⟩) hl2).trans a,(hb.cell (p:=⟨bk,_,none⟩) hl2).trans b,(hb.cell (p:=⟨bk,_,none⟩) hl2).trans c⟩
def SpPost (w0:World)(e:Ending)(w':World):Prop:=∃bk:Nat,e= .returned (.slice (some ⟨bk,0,none⟩) 19 19)∧ZcT w' bk∧Below w0.heap.size w0 w'
theorem lt19 {k:Nat} (h:k<19):k=0∨k=1∨k=2∨k=3∨k=4∨k=5∨k=6∨k=7∨k=8∨k=9∨k=10∨k=11∨k=12∨k=13∨k=14∨k=15∨k=16∨k=17∨k=18:=by omega
def spV:Array Value:=#[.int .i64 41889,.int .i32 65281,.int .i64 59,.int .i64 41948,.int .i32 65510,.int .i64 1,.int .i64 41949,.int .i32 65341,.int .i64 33,.int .i64 41982,.int .i32 65507,.int .i64 1,.int .i64 42145,.int .i32 12593,.int .i64 94,.int .i64 42401,.int .i32 8560,.int .i64 10,.int .i64 42416,.int .i32 8544,.int .i64 10,.int .i64 42433,.int .i32 913,.int .i64 17,.int .i64 42450,.int .i32 931,.int .i64 7,.int .i64 42465,.int .i32 945,.int .i64 17,.int .i64 42482,.int .i32 963,.int .i64 7,.int .i64 43681,.int .i32 12353,.int .i64 83,.int .i64 43937,.int .i32 12449,.int .i64 86,.int .i64 44193,.int .i32 1040,.int .i64 6,.int .i64 44199,.int .i32 1025,.int .i64 1,.int .i64 44200,.int .i32 1046,.int .i64 26,.int .i64 44241,.int .i32 1072,.int .i64 6,.int .i64 44247,.int .i32 1105,.int .i64 1,.int .i64 44248,.int .i32 1078,.int .i64 26]
theorem spV_at {k:Nat} (h:k<19):spV[k*3]? =some (.int .i64 (spC k))∧spV[k*3+1]? =some (.int .i32 (spT k))∧spV[k*3+2]? =some (.int .i64 (spN k)):=by
 rcases lt19 h with rfl|rfl|rfl|rfl|rfl|rfl|rfl|rfl|rfl|rfl|rfl|rfl|rfl|rfl|rfl|rfl|rfl|rfl|rfl<;>exact⟨rfl,rfl,rfl⟩
theorem ZpV (w:World):ZcT (w.alloc (.cells spV 401)) w.heap.size:=fun k hk=>by
 have hc:=fun j=>cell_of_row (w.alloc (.cells spV 401)) w.heap.size j _ 401 (0,0) (heap_alloc_new w _);rw [hc,hc,hc];exact spV_at hk
theorem ZpZ (w:World):Calls Tryz.prog 399 #[] w (SpPost w):=by
 have hS:=ZpV w;unfold spV at hS;go_enter Tryz.func399,Tryz.ntmps399
 go_wp2_with fail
 go_ret
 exact⟨_,rfl,hS,(Below.refl _ w).alloc (Nat.le_refl _) _⟩
theorem drop19 {k:Nat} (h:k<19):SPN.drop k=(spC k,spT k,spN k)::SPN.drop (k+1):=by
 have hl:k<SPN.length:=by simpa [SPN] using h
 rw [List.drop_eq_getElem_cons hl];simp only [spC,spT,spN,List.getD_eq_getElem?_getD,List.getElem?_eq_getElem hl,Option.getD_some]
theorem ZtY {k:Nat} (h:k<19)(code:Int):ZaV (SPN.drop k) code=if spC k≤code∧code<spC k+spN k then spT k+(code - spC k) else ZaV (SPN.drop (k+1)) code:=by
 rw [drop19 h];rfl
theorem sp_bd {k:Nat} (h:k<19):41000≤spC k∧spC k≤65535∧1≤spT k∧spT k≤65535∧1≤spN k∧spN k≤94∧spT k+spN k≤65536:=by
 rcases lt19 h with rfl|rfl|rfl|rfl|rfl|rfl|rfl|rfl|rfl|rfl|rfl|rfl|rfl|rfl|rfl|rfl|rfl|rfl|rfl<;>decide+kernel
def OtRel (code:Int)(w0:World)(bk:Nat)(i:Value)(wr:World):Prop:=∃k:Nat,k≤19∧i= .int .i64 k∧ZaV SPN code=ZaV (SPN.drop k) code∧ZcT wr bk∧Below w0.heap.size w0 wr
theorem ZhC {x:Int} (h0:0≤x)(h1:x≤65535):bits .and .i64 x 255=x % 256:=
 bits_mask .i64 63 (by decide) (fun n h0 h1=>by simp [IntKind.wrap,IntKind.bits,IntKind.signed];omega) 8 (by decide) x h0 (by omega)
theorem ZoN (code lead b:Int)(hcb:0≤code∧code≤65535)(e1:bits .and .i64 code 255=b)(e2:code / 256=lead)(hb:161≤b∧b≤254)(h1:lead≠161)(h2:lead≠162)(h6:lead≠166)(w:World):
 Calls Tryz.prog 385 #[.int .i64 code] w fun e w'=>e= .returned (.tuple #[.int .i32 (ZaV SPN code),.bool (decide (ZaV SPN code≠0))])∧Below w.heap.size w w':=by
 have hli:=fun w=>Zjs lead (by omega) w;rw [ZnA h1 h2 h6] at hli;unfold Zdw at hli;obtain⟨b0,b1⟩:=hb;have d1:decide (b<161)=false:=by simp;omega
 have d2:decide ((254:Int)<b)=false:=by simp;omega
 go_enter Tryz.func385,Tryz.ntmps385
 go_wp2_with (first|(go_at_call 397;refine(hli _).mono ?_;rintro e w1 ⟨rfl,hb1⟩)|(go_at_call 399;refine(ZpZ _).mono ?_;rintro e w2 ⟨bk,rfl,hS,hb2⟩))
 have hB2:=hb1.trans (hb2.mono hb1.size);clear hli e1 e2 d1 d2 h1 h2 h6 hb1 hb2;go_loopw [33] (fun i wr=>OtRel code w bk i wr) (fun i _=>19 - (intOf i).toNat)
 case atStart=>exact⟨0,by omega,rfl,rfl,hS,hB2⟩
 case round=>
  obtain⟨k,hk,rfl,heq,hSr,hbr⟩:=hrel;by_cases hk19:k<19
  · have hstep:=Lib.hid (ZtY hk19 code);obtain⟨c0,c1,c2⟩:=hSr k hk19;have hbd:=sp_bd hk19;generalize spC k=C at*;generalize spT k=T at*;generalize spN k=M at*;by_cases hC:C≤code
    · by_cases hM:code<C+M
      · have hval:=Lib.hid (show ZaV SPN code=T+(code - C) by rw [heq,hstep.out,if_pos ⟨hC,hM⟩]);clear heq hstep;go_wp2_with fail
        go_ret2
        refine⟨?_,hbr.alloc hbr.size _⟩;have hne:T+(code - C)≠0:=by omega
        show Ending.returned (.tuple #[.int .i32 (T+(code - C)),.bool true])=_
        rw [hval.out,decide_eq_true hne]
      · have hd:decide (code<C+M)=false:=by simpa using hM
        have hval:=Lib.hid (show ZaV SPN code=ZaV (SPN.drop (k+1)) code by rw [heq,hstep.out,if_neg (fun h=>hM h.2)]);clear heq hstep;go_wp2_with fail
        go_roundw
        case rel=>exact⟨k+1,by omega,by go_num,hval.out,ZcT.keep hSr ((Below.refl _ _).alloc (Nat.le_refl _) _) (Nat.le_refl _),hbr.alloc hbr.size _⟩
        case measure=>simp [intOf];omega
    · have hd:decide (C≤code)=false:=by simpa using hC
      have hval:=Lib.hid (show ZaV SPN code=ZaV (SPN.drop (k+1)) code by rw [heq,hstep.out,if_neg (fun h=>hC h.1)]);clear heq hstep;go_wp2_with fail
      go_roundw
      case rel=>exact⟨k+1,by omega,by go_num,hval.out,ZcT.keep hSr ((Below.refl _ _).alloc (Nat.le_refl _) _) (Nat.le_refl _),hbr.alloc hbr.size _⟩
      case measure=>simp [intOf];omega
  · have hk2:k=19:=by omega
    subst hk2;have hend:=Lib.hid (show ZaV SPN code=0 by rw [heq];rfl);clear hk19 heq;go_wp2_with fail
    go_ret2
    rw [hend.out];exact⟨rfl,hbr⟩
theorem ZoM (code:Int)(hcb:0≤code∧code≤65535)(hb:code % 256<161∨254<code % 256)(w:World):
 Calls Tryz.prog 385 #[.int .i64 code] w fun e w'=>e= .returned (.tuple #[.int .i32 0,.bool false])∧Below w.heap.size w w':=by
 have e1:=ZhC hcb.1 hcb.2;generalize code % 256=b at*;rcases hb with hb|hb
 · have d1:decide (b<161)=true:=by simpa using hb
   go_enter Tryz.func385,Tryz.ntmps385
   go_wp2_with fail
   go_ret2
   exact⟨rfl,Below.refl _ _⟩
 · have d1:decide (b<161)=false:=by simp;omega
   have d2:decide ((254:Int)<b)=true:=by simpa using hb
   go_enter Tryz.func385,Tryz.ntmps385
   go_wp2_with fail
   go_ret2
   exact⟨rfl,Below.refl _ _⟩
theorem Zqd (s:ByteArray)(ps:List Int)(h:Zcu s ps)(k:Int)(hs:s.size≤100000)(hkb: -100000≤k∧k≤100000)(w:World):
 Calls Tryz.prog 403 #[.string s,.int .i64 k] w fun e w'=>e= .returned (.tuple #[.int .i32 (if 0≤k∧k<ps.length then ps.getD k.toNat 0 else 0),.bool (decide (0≤k∧k<ps.length))])∧Below w.heap.size w w':=by
 by_cases hk:0≤k∧k<ps.length
 · have:=ZnP s ps h k.toNat (by omega) hs w;have e:((k.toNat:Nat):Int)=k:=by omega
   rw [e] at this;simp only [hk,and_self,if_true,decide_true];exact this
 · have:=ZnQ s ps h k (by omega) hs hkb w;simp only [if_neg hk,decide_eq_false hk];exact this
theorem Zmy (l:Int):∀p∈Zr l,0<p∧p≤65535:=by
 intro p hp;have h:=List.all_eq_true.1 Zs6 p;simp only [Bool.and_eq_true,decide_eq_true_eq] at h;refine h ?_;unfold Zr at hp;simp only [List.mem_append];split at hp
 · exact .inl (.inl hp)
 · split at hp
   · exact .inl (.inr hp)
   · split at hp
     · exact .inr hp
     · cases hp
theorem Zlz (l:Int):(Zr l).length≤94:=by
 obtain⟨a,b,c⟩:=ZfI;unfold Zr;split
 · omega
 · split
   · omega
   · split
     · omega
     · simp
theorem ZrS (l:Int):Zcu (wB l) (Zr l)∧(wB l).size≤100000:=by
 have hx:Zcu (wB l) (Zr l):=⟨by simp [wB],fun p hp=>by have:=Zmy l p hp;omega⟩
 refine⟨hx,?_⟩;have:=Zlz l;rw [hx.size];omega
theorem Zk9 (l:Int)(h:l=161∨l=162∨l=166):(Zr l).isEmpty=false∧0<(Zr l).length:=by
 rcases h with rfl|rfl|rfl<;>decide+kernel
theorem ne_nil {s:ByteArray} (h:0<s.size):s.toList.isEmpty=false:=by
 rw [ByteArray.toList_eq];have hl:s.data.toList.length=s.size:=by simp
 generalize s.data.toList=l at*
 match l,hl with
 |[],hl=>simp at hl;omega
 |_::_,_=>rfl
theorem ZoL (code lead b:Int)(hcb:0≤code∧code≤65535)(hcd:code=lead*256+b)(hb:161≤b∧b≤254)(hl:lead=161∨lead=162∨lead=166)(w:World):
 Calls Tryz.prog 385 #[.int .i64 code] w fun e w'=>e= .returned (.tuple #[.int .i32 ((Zr lead).getD (b - 161).toNat 0),.bool (decide ((Zr lead).getD (b - 161).toNat 0≠0))])∧Below w.heap.size w w':=by
 have e1:=ZhC hcb.1 hcb.2;have e2:code / 256=lead:=by omega
 have e3:code % 256=b:=by omega
 have e4:code - (lead*256+161)=b - 161:=by omega
 rw [e3] at e1;have hli:=fun w=>Zjs lead (by omega) w;obtain⟨hx,hsz⟩:=ZrS lead;have hat:=fun w=>Zqd (wB lead) (Zr lead) hx (b - 161) hsz (by omega) w;have hne:=ne_nil (s:=wB lead) (by have:=(Zk9 lead hl).2;rw [hx.size];omega);have hval:(if 0≤b - 161∧b - 161<(Zr lead).length then(Zr lead).getD (b - 161).toNat 0 else 0)=(Zr lead).getD (b - 161).toNat 0∧decide (0≤b - 161∧b - 161<(Zr lead).length)=decide ((Zr lead).getD (b - 161).toNat 0≠0):=by
  by_cases hin:b - 161<(Zr lead).length
  · have:=Zmy lead _ (Zdo (ps:=Zr lead) (k:=(b - 161).toNat) (by omega));refine⟨if_pos ⟨by omega,hin⟩,?_⟩;rw [decide_eq_true (⟨by omega,hin⟩:0≤b - 161∧b - 161<(Zr lead).length),decide_eq_true (by omega)]
  · have h0:(Zr lead).getD (b - 161).toNat 0=0:=by
     rw [List.getD_eq_getElem?_getD,List.getElem?_eq_none (by omega)];rfl
    rw [h0];refine⟨if_neg (fun h=>hin h.2),?_⟩;rw [decide_eq_false (fun h=>hin h.2)];rfl
 rw [hval.1,hval.2] at hat;clear hval hx hsz e3;generalize wB lead=s at*;generalize decide ((Zr lead).getD (b - 161).toNat 0≠0)=ok at*;generalize (Zr lead).getD (b - 161).toNat 0=v at*;obtain⟨b0,b1⟩:=hb;have d1:decide (b<161)=false:=by simp;omega
 have d2:decide ((254:Int)<b)=false:=by simp;omega
 clear hcd hl;go_enter Tryz.func385,Tryz.ntmps385
 go_wp2_with (first|(go_at_call 397;refine(hli _).mono ?_;rintro e w1 ⟨rfl,hb1⟩)|(go_at_call 403;refine(hat _).mono ?_;rintro e w2 ⟨rfl,hb2⟩))
 go_ret2
 exact⟨rfl,hb1.trans (hb2.mono hb1.size)⟩
theorem ZoK (lead b:Int)(hl:0≤lead∧lead≤255)(hb:0≤b∧b≤255)(w:World):
 Calls Tryz.prog 385 #[.int .i64 (lead*256+b)] w fun e w'=>e= .returned (.tuple #[.int .i32 (Zb2 lead b),.bool (decide (Zb2 lead b≠0))])∧Below w.heap.size w w':=by
 unfold Zb2;by_cases hlo:b<161∨254<b
 · rw [if_pos hlo];exact ZoM _ (by omega) (by omega) w
 · rw [if_neg hlo];by_cases h:lead=161∨lead=162∨lead=166
   · rw [(Zk9 lead h).1];exact ZoL _ lead b (by omega) rfl (by omega) h w
   · have e:(Zr lead).isEmpty=true:=by
      unfold Zr;rw [if_neg (fun e=>h (.inl e)),if_neg (fun e=>h (.inr (.inl e))),if_neg (fun e=>h (.inr (.inr e)))];rfl
     rw [e];have e1:=ZhC (x:=lead*256+b) (by omega) (by omega);rw [show(lead*256+b) % 256=b by omega] at e1;exact ZoN _ lead b (by omega) e1 (by omega) (by omega) (fun e=>h (.inl e)) (fun e=>h (.inr (.inl e))) (fun e=>h (.inr (.inr e))) w
end Go.Proofs.YtlfinljfghhpdaaGreatDoor
