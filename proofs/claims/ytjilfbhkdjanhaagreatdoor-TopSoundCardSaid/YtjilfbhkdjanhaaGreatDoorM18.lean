/- Lemmas for a statement on the tops; conditions: as each says. -/
import Derived.Lib.BitFns
import Derived.Lib.TrailingZeros
import Derived.Lib.EndianBits
import Derived.Test.YtjilfbhkdjanhaaGreatDoorM2
set_option linter.all false
set_option maxRecDepth 100000
set_option maxHeartbeats 1000000
open Go.Proofs.Tryz
namespace Go.Proofs.YtjilfbhkdjanhaaGreatDoor
open Go
def G:List Nat:=[
 251594643,3866899,2621715,273,242943379,3866897,37421463,655633,7050643,2819347,3277073,2818323,
 655633,7047059,3146003,524289,721171,273,2818963,1,74122643,37422359,3866899,259,
 0,3866903,2686995,35127569,1,15401299,3145987,2097155,2294033,1,7045395,3145985,
 1245459,196881,1,36406611,0,2818323,184223639,3866899,2162963,0,138087707,3866899,
 20119827,17,204145939,1048849,0,721169,2752787,2818451,1048577,1,196881,2294019,
 74123027,273,69928211,150704023,3866899,1,0,78318999,3866899,3146001,17,44766611,
 273,1048577,721169,1,2818323,1048577,2097153,2752785,2162961,2819475,1,8061331,
 138084627,3866899,0,0,138087699,3866899,1048577,0,2097427,257,1,17,
 0,2195731,0,1,2294033,0,721299,196881,2818321,209387795,3866899,2621459,
 0,138084627,2818323,3866899,655377,2818323,2097169,1048576,2818321,2752785,2818323,1048577,
 1,2687251,2818323,107675923,0,2818323,174786515,8061203,2097411,0,141231379,3866899,
 12058899,1,2819355,3145745,0,2752785,655633,170592151,655633,1,273,590097,
 590097,0,45811091,36376479,37421331,131091,0,7013779,3867027,37355795,17,2818327,
 1048593,1048577,196883,17,103483283,1048833,1,2097427,2687249,721171,0,15402259,
 138085651,3866899,65539,0,3735955,2097153,3866627,0,2294035,0,0,1,
 2097153,2687251,0,0,0,2097153,196881,0,2818323,37423003,3866899,2818323,
 2162961,70978975,3866899,3866899,2097425,36373783,2097427,1638673,721169,2818323,111870355,1048577,
 2162963,2818323,2687235,2818835,0,69960083,137560347,3342611,2097152,0,3343635,273,
 0,16,2295187,1048595,1048577,196881,1,2294035,1048577,1,17,2097152,
 230675,65809,2818323,104564595,3866899,170592531,131345,92211123,2818323,239013143,1769745,11245331,
 3866899,2686995,2818323,2818323,2819859,3342611,2294035,2818323,11206931,267075859,590097,75204371,
 8062419,3866899,2163027,273,7013651,2818323,3342609,1,149619987,2752771,3145729,2818321,
 2097171,2819859,1048577,1,721171,65809,2818323,0,107677075,3869011,3866899,2097169,
 0,3866899,2097153,1048577,0,11206931,1048835,1048577,196881,2097152,2294035,3145729,
 0,1,1,2686977,0,140706067,8061267,3866899,2163025,0,3866899,2818323,
 1048593,2097169,2818323,2097425,0,2818321,65537,2818323,1048577,17,2818321,2162961,
 2818323,0,2818963,2818323,3866899,2097155,0,3867027,2818323,3866897,1,2818323,
 2162963,2097153,257,1,2818323,2097425,2097153,2818323,65809,2294035,0,2818323,
 3867411,3866899,2097153,0,3867923,2818323,1048593,17,69927187,17,1,2621457,
 1,2818323,1048577,1,2294035,2162961,722323,196881,2818323,37422359,3866899,3,
 0,3866899,2818323,3342609,655617,2818323,2097153,0,17,655633,2819475,2097153,
 0,590097,2687249,721169,0,2818323,2826515,3866899,2097153,0,2819347,2818323,
 3866899,131345,36380947,2621715,2621459,2752787,655633,2695443,2162961,2097427,2818323,2687251,
 36373459,2294033,2818323]
def gr(g:Nat):Nat:=G.getD g 0
def ZaD(n:Nat):Bool:=gr (n / 28) / 2^(n % 28) % 2==1
def cnt(b:Bool):Nat->Nat
 |0=>0
 |n+1=>cnt b n+(if ZaD n=b then 1 else 0)
def Ze0(n:Nat):cnt true n+cnt false n=n:=by
 induction n with
 |zero=>rfl
 |succ n j=>
  simp only[cnt];cases ZaD n<;>simp<;>omega
def Zta(b:Bool){m n:Nat}(h:m<=n):cnt b m<=cnt b n:=by
 induction n with
 |zero=>have:m=0:=by omega
        subst this;exact Nat.le_refl _
 |succ n j=>
  by_cases e:m=n+1
  ·subst e;exact Nat.le_refl _
  ·have:=j (by omega);simp only[cnt];omega
def Zop:∀(r f x:Nat),r<f->Lib.popAux f (x % 2^(r+1))=Lib.popAux f (x % 2^r)+x / 2^r % 2
 |0,f,x,h=>by
  match f,h with
  |f+1,_=>
   have h0:∀f,Lib.popAux f 0=0:=by
    intro f;induction f with
    |zero=>rfl
    |succ f j=>simp[Lib.popAux,j]
   simp only[Lib.popAux,Nat.pow_zero,Nat.mod_one,Nat.zero_mod,Nat.zero_div,h0,Nat.div_one,Nat.zero_add,Nat.pow_one];have u:x % 2 % 2=x % 2:=by omega
   have q:x % 2 / 2=0:=by omega
   rw[u,q,h0,Nat.add_zero]
 |r+1,f,x,h=>by
  match f,h with
  |f+1,h=>
   have j:=Zop r f (x / 2) (by omega);have u:x % 2^(r+1+1) % 2=x % 2:=by
    rw[Nat.pow_succ,Nat.mod_mul_left_mod]
   have q:x % 2^(r+1) % 2=x % 2:=by
    rw[Nat.pow_succ,Nat.mod_mul_left_mod]
   have D:x % 2^(r+1+1) / 2=x / 2 % 2^(r+1):=by
    rw[Nat.pow_succ 2 (r+1),Nat.mul_comm,Nat.mod_mul_right_div_self]
   have C:x % 2^(r+1) / 2=x / 2 % 2^r:=by
    rw[Nat.pow_succ 2 r,Nat.mul_comm,Nat.mod_mul_right_div_self]
   have y:x / 2^(r+1)=x / 2 / 2^r:=by
    rw[Nat.pow_succ,Nat.mul_comm,Nat.div_div_eq_div_mul]
   simp only[Lib.popAux,u,q,D,C,y,j];omega
def Zgg(r x:Nat)(h:r<64):Lib.onesCount (x % 2^(r+1))=Lib.onesCount (x % 2^r)+x / 2^r % 2:=Zop r 64 x h
def Zgh:Lib.onesCount 0=0:=by decide
def ZgP:G.length=399:=by decide+kernel
def G_all:G.all (λx=>Nat.ble x 268435455)=true:=by decide+kernel
def Zcy(g:Nat):gr g<2^28:=by
 unfold gr;rw[List.getD_eq_getElem?_getD];by_cases h:g<G.length
 ·rw[List.getElem?_eq_getElem h];have:=List.all_eq_true.1 G_all _ (List.getElem_mem h);have:=Nat.le_of_ble_eq_true this;simp only[Option.getD_some];omega
 ·rw[List.getElem?_eq_none (by omega)];simp
def ZiJ(g r:Nat)(h:r<=28):cnt true (28*g+r)=cnt true (28*g)+Lib.onesCount (gr g % 2^r):=by
 induction r with
 |zero=>simp[Nat.mod_one,Zgh]
 |succ r j=>
  have j:=j (by omega);have u:(28*g+r) / 28=g:=by omega
  have q:(28*g+r) % 28=r:=by omega
  have hs:=Zgg r (gr g) (by omega);rw[show 28*g+(r+1)=28*g+r+1 by omega];simp only[cnt,ZaD,u,q,j,hs];have hb:gr g / 2^r % 2=0\/gr g / 2^r % 2=1:=by omega
  rcases hb with hb|hb<;>simp[hb]
  omega
def ZiK(g:Nat):cnt true (28*(g+1))=cnt true (28*g)+Lib.onesCount (gr g):=by
 have h:=ZiJ g 28 (by omega);rw[Nat.mod_eq_of_lt (Zcy g)] at h;rw[show 28*(g+1)=28*g+28 by omega];exact h
def comp(x:Nat):Nat:=268435455 - x
def Zmi(x r:Nat)(u:x<2^28)(y:r<28):comp x / 2^r % 2+x / 2^r % 2=1:=by
 have h:=Nat.testBit_two_pow_sub_succ u r;have e:2^28 - (x+1)=comp x:=by unfold comp;omega
 rw[e,Nat.testBit_eq_decide_div_mod_eq,Nat.testBit_eq_decide_div_mod_eq] at h;have q:x / 2^r % 2=0\/x / 2^r % 2=1:=by omega
 have j:comp x / 2^r % 2=0\/comp x / 2^r % 2=1:=by omega
 rcases q with q|q<;>rcases j with j|j<;>simp[q,j,y] at h⊢
def Ztc(x:Nat)(j:x<2^28):x^^^268435455=comp x:=by
 apply Nat.eq_of_testBit_eq
 intro i;have h:=Nat.testBit_two_pow_sub_succ j i;have e:2^28 - (x+1)=comp x:=by unfold comp;omega
 rw[e] at h;rw[h,Nat.testBit_xor,show(268435455:Nat)=2^28 - 1 by decide,Nat.testBit_two_pow_sub_one];by_cases q:i<28
 ·simp[q]
 ·have:x.testBit i=false:=Nat.testBit_lt_two_pow (Nat.lt_of_lt_of_le j (Nat.pow_le_pow_right (by decide) (by omega)));simp[q,this]
def ZiL(x r:Nat)(q:x<2^28)(u:r<=28):Lib.onesCount (comp x % 2^r)+Lib.onesCount (x % 2^r)=r:=by
 induction r with
 |zero=>simp[Nat.mod_one,Zgh]
 |succ r j=>
  have D:=Zgg r x (by omega);have C:=Zgg r (comp x) (by omega);have y:=Zmi x r q (by omega);have:=j (by omega);omega
def grp(b:Bool)(g:Nat):Nat:=if b then gr g else comp (gr g)
def Zi6(b:Bool)(g:Nat):grp b g<2^28:=by
 have:=Zcy g;unfold grp comp;split<;>omega
def Zmc(b:Bool)(g r:Nat)(h:r<=28):cnt b (28*g+r)=cnt b (28*g)+Lib.onesCount (grp b g % 2^r):=by
 have j:=ZiJ g r h;cases b with
 |true=>exact j
 |false=>
  have y:=Ze0 (28*g+r);have u:=Ze0 (28*g);have q:=ZiL (gr g) r (Zcy g) h;simp only[grp,Bool.false_eq_true,if_false];omega
def Zs8(b:Bool)(g:Nat):cnt b (28*(g+1))=cnt b (28*g)+Lib.onesCount (grp b g):=by
 have h:=Zmc b g 28 (by omega);rw[Nat.mod_eq_of_lt (Zi6 b g)] at h;rw[show 28*(g+1)=28*g+28 by omega];exact h
def Zui(b:Bool)(g r:Nat)(h:r<28):(ZaD (28*g+r)=b)↔grp b g / 2^r % 2=1:=by
 have q:(28*g+r) / 28=g:=by omega
 have j:(28*g+r) % 28=r:=by omega
 have u:=Zmi (gr g) r (Zcy g) h;simp only[ZaD,q,j];cases b with
 |true=>simp[grp]
 |false=>
  simp only[grp,Bool.false_eq_true,if_false];have hb:gr g / 2^r % 2=0\/gr g / 2^r % 2=1:=by omega
  rcases hb with hb|hb<;>simp[hb]<;>omega
def ZaJ(x:Nat):Nat->Nat
 |0=>x
 |k+1=>ZaJ (x&&&(x - 1)) k
def ZjN:∀(c f m:Nat),2^c*(2*m+1)<2^f->Lib.popAux f (2^c*(2*m+1))=Lib.popAux f (2^(c+1)*m)+1
 |c,0,m,h=>by
  have:=Nat.two_pow_pos c;have:0<2^c*(2*m+1):=Nat.mul_pos this (by omega);omega
 |0,f+1,m,_=>by
  simp only[Lib.popAux,Nat.pow_zero,Nat.one_mul,Nat.zero_add,Nat.pow_one];rw[show(2*m+1) % 2=1 by omega,show(2*m+1) / 2=m by omega,show 2*m % 2=0 by omega,show 2*m / 2=m by omega];omega
 |c+1,f+1,m,h=>by
  have j:=ZjN c f m (by rw[Nat.pow_succ,Nat.pow_succ 2 f] at h;rw[show 2^c*2*(2*m+1)=2^c*(2*m+1)*2 by rw[Nat.mul_right_comm]] at h;omega);simp only[Lib.popAux];have u:2^(c+1)*(2*m+1)=2*(2^c*(2*m+1)):=by rw[Nat.pow_succ,Nat.mul_comm (2^c) 2,Nat.mul_assoc]
  have q:2^(c+1+1)*m=2*(2^(c+1)*m):=by rw[Nat.pow_succ 2 (c+1),Nat.mul_comm (2^(c+1)) 2,Nat.mul_assoc]
  rw[u,q];generalize 2^c*(2*m+1)=y at*;generalize 2^(c+1)*m=z at*;rw[show 2*y % 2=0 by omega,show 2*y / 2=y by omega,show 2*z % 2=0 by omega,show 2*z / 2=z by omega,j];omega
def ZsH(c m:Nat):(2^c*(2*m+1))&&&(2^c*(2*m+1) - 1)=2^(c+1)*m:=by
 have C:=Nat.two_pow_pos c;have y:2^c*(2*m+1)=2^(c+1)*m+2^c:=by rw[Nat.pow_succ,Nat.mul_add,Nat.mul_one,Nat.mul_assoc]
 have u:2^c*(2*m+1) - 1=2^(c+1)*m+(2^c - 1):=by omega
 have q:2^(c+1)*m=2^(c+1)*m+0:=rfl;have j:2^c<2^(c+1):=Nat.pow_lt_pow_right (by decide) (by omega);rw[u,y];apply Nat.eq_of_testBit_eq
 intro i;rw[Nat.testBit_and,Nat.testBit_two_pow_mul_add m j,Nat.testBit_two_pow_mul_add m (show 2^c - 1<2^(c+1) by omega),q,Nat.testBit_two_pow_mul_add m (Nat.two_pow_pos (c+1))];split
 ·rw[<-Nat.testBit_and,Nat.and_two_pow_sub_one_eq_mod,Nat.mod_self]
 ·simp
def ZnQ{r s m n:Nat}(h:2^r*(2*m+1)=2^s*(2*n+1)):¬r<s:=by
 intro j;obtain⟨d,rfl⟩:∃d,s=r+(d+1):=⟨s - r - 1,by omega⟩
 rw[Nat.pow_add,Nat.mul_assoc] at h;have:=Nat.eq_of_mul_eq_mul_left (Nat.two_pow_pos r) h;rw[Nat.pow_succ,Nat.mul_comm (2^d) 2,Nat.mul_assoc] at this;omega
def Znw(f x:Nat)(h0:0<x)(h:x<2^f):∃c m,x=2^c*(2*m+1)/\c<f:=by
 obtain⟨m,q,j⟩:=Lib.ctzFrom_spec f x h0 h;exact⟨_,m,q,j⟩
def ctz_eq{x r m:Nat}(h:x=2^r*(2*m+1))(q:x<2^32):Lib.ctz 32 x=r:=by
 have u:0<x:=by rw[h];exact Nat.mul_pos (Nat.two_pow_pos r) (by omega)
 obtain⟨C,y,D⟩:=Lib.ctzFrom_spec 32 x u q;unfold Lib.ctz;rw[if_neg (by omega)];have j:=h.symm.trans y;have a:=ZnQ j;have b:=ZnQ j.symm;omega
def Zvm(y:Nat)(h0:0<y)(h:y<2^64):0<Lib.onesCount y:=by
 obtain⟨c,m,j,_⟩:=Znw 64 y h0 h;unfold Lib.onesCount;rw[j,ZjN c 64 m (by rw[<-j];exact h)];exact Nat.succ_pos _
def ZwI(c e q m:Nat):2^(c+(e+1))*(2*q+1)+2^c*(2*m+1)=2^c*(2*(2^e*(2*q+1)+m)+1):=by
 have j:2^(c+(e+1))*(2*q+1)=2^c*(2*(2^e*(2*q+1))):=by
  rw[Nat.pow_add,Nat.pow_succ,Nat.mul_assoc,Nat.mul_assoc,Nat.mul_left_comm 2 (2^e)]
 rw[j,<-Nat.mul_add];congr 1
 omega
def ZuE(c e q m:Nat):2^(c+1)*(2^e*(2*q+1)+m)=2^(c+(e+1))*(2*q+1)+2^(c+1)*m:=by
 rw[Nat.mul_add,<-Nat.mul_assoc,<-Nat.pow_add,show c+1+e=c+(e+1) by omega]
def sel'(C:Nat->Nat)(W:C 0=0)(j:∀y,0<y->y<2^64->0<C y)(u:∀c m,2^c*(2*m+1)<2^64->C (2^c*(2*m+1))=C (2^(c+1)*m)+1)(N:Nat->Nat)(L:∀r m,2^r*(2*m+1)<2^32->N (2^r*(2*m+1))=r):∀(k q r y:Nat),y<2^r->2^r*(2*q+1)+y<2^32->C y=k->N (ZaJ (2^r*(2*q+1)+y) k)=r
 |0,q,r,y,X,O,J=>by
  have h0:y=0:=by
   by_cases h:y=0
   ·exact h
   ·have I:=j y (by omega) (by omega);rw[J] at I;exact absurd I (Nat.lt_irrefl 0)
  subst h0;rw[Nat.add_zero] at O⊢;exact L r q O
 |k+1,q,r,y,X,O,J=>by
  have h0:0<y:=by
   by_cases h:y=0
   ·rw[h,W] at J;exact absurd J (Nat.succ_ne_zero k).symm
   ·omega
  obtain⟨c,m,I,Z⟩:=Znw r y h0 X;obtain⟨e,rfl⟩:∃e,r=c+(e+1):=⟨r - c - 1,by omega⟩
  have V:y<2^64:=by omega
  have U:C (2^(c+1)*m)=k:=by
   have:=u c m (by rw[<-I];exact V);rw[I,this] at J;exact Nat.succ.inj J
  have Y:2^(c+1)*m<=y:=by
   rw[I,Nat.pow_succ,Nat.mul_assoc];exact Nat.mul_le_mul_left _ (by omega)
  have D:(2^(c+(e+1))*(2*q+1)+y)&&&(2^(c+(e+1))*(2*q+1)+y - 1)=2^(c+(e+1))*(2*q+1)+2^(c+1)*m:=by
   rw[I,ZwI,ZsH,ZuE]
  show N (ZaJ _ k)=_
  rw[D];exact sel' C W j u N L k q (c+(e+1)) (2^(c+1)*m) (by omega) (by omega) U
def sel(x r:Nat)(j:x<2^28)(hb:x / 2^r % 2=1):Lib.ctz 32 (ZaJ x (Lib.onesCount (x % 2^r)))=r:=by
 have hd:=Nat.div_add_mod x (2^r);have e:2*(x / 2^r / 2)+1=x / 2^r:=by omega
 have h:=sel' Lib.onesCount Zgh Zvm (λc m h=>ZjN c 64 m h) (Lib.ctz 32) (λ_ _ h=>ctz_eq rfl h) (Lib.onesCount (x % 2^r)) (x / 2^r / 2) r (x % 2^r) (Nat.mod_lt _ (Nat.two_pow_pos r)) (by rw[e,hd];omega) rfl;rw[e,hd] at h;exact h
open Go Go.RowKit
def Zfq:∀(r f x:Nat),Lib.popAux (r+f) x=Lib.popAux r x+Lib.popAux f (x / 2^r)
 |0,f,x=>by simp[Lib.popAux]
 |r+1,f,x=>by
  rw[show r+1+f=r+f+1 by omega];simp only[Lib.popAux];rw[Zfq r f (x / 2),Nat.div_div_eq_div_mul,Nat.pow_succ,Nat.mul_comm 2 (2^r),Nat.add_assoc]
def Zon:∀(r x:Nat),Lib.popAux r (x % 2^r)=Lib.popAux r x
 |0,x=>rfl
 |r+1,x=>by
  have j:=Zon r (x / 2);simp only[Lib.popAux];have u:x % 2^(r+1) % 2=x % 2:=by rw[Nat.pow_succ,Nat.mod_mul_left_mod]
  have q:x % 2^(r+1) / 2=x / 2 % 2^r:=by rw[Nat.pow_succ,Nat.mul_comm,Nat.mod_mul_right_div_self]
  rw[u,q,j]
def ZjO:∀f,Lib.popAux f 0=0
 |0=>rfl
 |f+1=>by simp[Lib.popAux,ZjO f]
def ZhA(y:Nat):Lib.popAux 8 y=Lib.onesCount (y % 256):=by
 unfold Lib.onesCount;rw[show(64:Nat)=8+56 by decide,Zfq 8 56,show y % 256 / 2^8=0 by omega,ZjO,Nat.add_zero];exact(Zon 8 y).symm
def Zvj(x:Nat)(h:x<2^32):Lib.onesCount x=Lib.onesCount (x / 16777216)+Lib.onesCount (x / 65536 % 256)+Lib.onesCount (x / 256 % 256)+Lib.onesCount (x % 256):=by
 have e0:Lib.onesCount x=Lib.popAux 8 x+(Lib.popAux 8 (x / 256)+(Lib.popAux 8 (x / 65536)+(Lib.popAux 8 (x / 16777216)+0))):=by
  unfold Lib.onesCount;rw[show(64:Nat)=8+(8+(8+(8+32))) by decide,Zfq 8,Zfq 8,Zfq 8,Zfq 8,show x / 2^8 / 2^8 / 2^8 / 2^8=0 by omega,ZjO,show x / 2^8 / 2^8 / 2^8=x / 16777216 by omega,show x / 2^8 / 2^8=x / 65536 by omega,show x / 2^8=x / 256 by omega]
 have y:=ZhA x;have u:=ZhA (x / 256);have q:=ZhA (x / 65536);have j:=ZhA (x / 16777216);rw[show x / 16777216 % 256=x / 16777216 by omega] at j;rw[e0,y,u,q,j];generalize Lib.onesCount (x / 16777216)=a;generalize Lib.onesCount (x / 65536 % 256)=b;generalize Lib.onesCount (x / 256 % 256)=c;generalize Lib.onesCount (x % 256)=d;omega
def ZdP:List UInt8->List UInt8->Bool
 |[],[]=>true
 |a::l,b::r=>Nat.beq a.toNat b.toNat&&ZdP l r
 |_,_=>false
def Zhg:∀(l r:List UInt8),ZdP l r=true->l=r
 |[],[],_=>rfl
 |a::l,b::r,h=>by
  simp only[ZdP,Bool.and_eq_true] at h;rw[Zhg l r h.2,UInt8.toNat_inj.1 (Nat.eq_of_beq_eq_true h.1)]
 |[],_::_,h=>by simp[ZdP] at h
 |_::_,[],h=>by simp[ZdP] at h
def Zd6:List UInt8:=(List.range 256).map λi=>(Lib.onesCount i).toUInt8
def pB:ByteArray:=⟨Zd6.toArray⟩
def litP(d:Array UInt8)(h:ZdP d.toList Zd6=true):ByteArray.mk d=pB:=by
 have:=Zhg _ _ h;unfold pB;rw[<-this]
def Zvy:pB.size=256:=by
 show Zd6.toArray.size=256
 simp[Zd6]
def ones8:∀n:Fin 256,Lib.onesCount n.val<=8:=Lib.onesCount_le8
def ZnB(L:List UInt8)(i:Nat)(h:i<(⟨L.toArray⟩:ByteArray).size):(⟨L.toArray⟩:ByteArray)[i]=L[i]'h:=rfl
def ZwU(i:Nat)(h:i<Zd6.length):Zd6[i]=(Lib.onesCount i).toUInt8:=by
 simp only[Zd6,List.getElem_map,List.getElem_range]
def small8(k:Nat)(h:k<=8):(k.toUInt8).toNat=k:=by
 show k % 256=k
 omega
def pB_at(i:Nat)(q:i<256)(h:i<pB.size):(pB[i]'h).toNat=Lib.onesCount i/\Lib.onesCount i<=8:=by
 have j:Lib.onesCount i<=8:=ones8 ⟨i,q⟩;refine⟨?_,j⟩;have e:pB[i]'h=(Lib.onesCount i).toUInt8:=(ZnB Zd6 i h).trans (ZwU i h);rw[e];exact small8 _ j
def Zkk{x:Int}(h0:0<=x)(j:x<4294967296):bits .and .u32 x 255=x % 256:=
 bits_mask .u32 32 (by decide) (λn h0 j=>by simp[IntKind.wrap,IntKind.bits,IntKind.signed];omega) 8 (by decide) x h0 (by omega)
def Zim(x:Nat)(q:x<2^32)(w:World):
 Calls prog 356 #[.int .u32 x] w λe w'=>e=.returned (.int .i64 (Lib.onesCount x))/\Below w.heap.size w w':=by
 have u:=QQ (Zvj x q);have hz:=Zvy;have j:∀(i:Nat) (y:i<256) (h:i<pB.size),(pB[i]'h).toNat=Lib.onesCount i/\Lib.onesCount i<=8:=pB_at;have b1:bits .and .u32 ((x:Int) / 65536) 255=(x:Int) / 65536 % 256:=Zkk (by omega) (by omega);have b2:bits .and .u32 ((x:Int) / 256) 255=(x:Int) / 256 % 256:=Zkk (by omega) (by omega);have b3:bits .and .u32 (x:Int) 255=(x:Int) % 256:=Zkk (by omega) (by omega);have J:((x:Int) / 16777216).toNat=x / 16777216:=by omega
 have I:((x:Int) / 65536 % 256).toNat=x / 65536 % 256:=by omega
 have D:((x:Int) / 256 % 256).toNat=x / 256 % 256:=by omega
 have C:((x:Int) % 256).toNat=x % 256:=by omega
 have N:0<=(x:Int) / 16777216/\(x:Int) / 16777216<256:=by omega
 have r2:0<=(x:Int) / 65536 % 256/\(x:Int) / 65536 % 256<256:=by omega
 have L:0<=(x:Int) / 256 % 256/\(x:Int) / 256 % 256<256:=by omega
 have r4:0<=(x:Int) % 256/\(x:Int) % 256<256:=by omega
 refine calls_of_wp func356 rfl ?_;rw[litP]
 rotate_left
 kernel_rfl
 generalize pB=s at*;obtain⟨p1,W⟩:=j (x / 16777216) (by omega) (by omega);obtain⟨Z,V⟩:=j (x / 65536 % 256) (by omega) (by omega);obtain⟨Y,U⟩:=j (x / 256 % 256) (by omega) (by omega);obtain⟨X,O⟩:=j (x % 256) (by omega) (by omega);generalize Lib.onesCount (x / 16777216)=a at*;generalize Lib.onesCount (x / 65536 % 256)=b at*;generalize Lib.onesCount (x / 256 % 256)=c at*;generalize Lib.onesCount (x % 256)=d at*;clear j;simp only[ntmps356,List.size_toArray,List.length_cons,List.length_nil,Nat.reduceAdd,Nat.reduceSub,Array.replicate_succ,Array.replicate_zero,List.push_toArray,List.append_toArray,List.nil_append,List.cons_append];go_wp2_with fail
 go_region
 go_wp2_with fail
 go_ret
 refine⟨ZaH ?_,(Below.refl _ w).drew⟩;rw[u.out];omega
def ZbG(n:Nat):UInt8:=if n<10 then(48+n).toUInt8 else(87+n).toUInt8
def ZcN(x:Nat):List UInt8:=[ZbG (x / 16777216 % 16),ZbG (x / 1048576 % 16),ZbG (x / 65536 % 16),ZbG (x / 4096 % 16),ZbG (x / 256 % 16),ZbG (x / 16 % 16),ZbG (x % 16)]
def Zeu:List UInt8:=G.flatMap ZcN
def mB:ByteArray:=⟨Zeu.toArray⟩
def litM(d:Array UInt8)(h:ZdP d.toList Zeu=true):ByteArray.mk d=mB:=by
 have:=Zhg _ _ h;unfold mB;rw[<-this]
def Zt0(l:List Nat):(l.flatMap ZcN).length=7*l.length:=by
 induction l with
 |nil=>rfl
 |cons x l j=>rw[List.flatMap_cons,List.length_append,j,List.length_cons];simp[ZcN];omega
def ZtZ(l:List Nat)(g i:Nat)(j:g<l.length)(u:i<7):(l.flatMap ZcN)[7*g+i]?=(ZcN (l.getD g 0))[i]?:=by
 induction l generalizing g with
 |nil=>simp at j
 |cons x l q=>
  rw[List.flatMap_cons];cases g with
  |zero=>rw[List.getElem?_append_left (by simp[ZcN];omega)];simp
  |succ g=>
   rw[List.getElem?_append_right (by simp[ZcN];omega)];have e:7*(g+1)+i - (ZcN x).length=7*g+i:=by simp[ZcN];omega
   rw[e,q g (by simpa using j)];simp
def ZuT:mB.size=2793:=by
 show Zeu.toArray.size=2793
 rw[List.size_toArray,Zeu,Zt0,ZgP]
def mB_at(g i:Nat)(u:g<399)(q:i<7)(h:7*g+i<mB.size):(mB[7*g+i]'h)=ZbG (gr g / 16^(6 - i) % 16):=by
 have C:=ZtZ G g i (by rw[ZgP];exact u) q;have e:(mB[7*g+i]'h)=Zeu[7*g+i]'h:=ZnB Zeu _ h;rw[e];have j:Zeu[7*g+i]?=(ZcN (gr g))[i]?:=C;rw[List.getElem?_eq_getElem h] at j;have y:i=0\/i=1\/i=2\/i=3\/i=4\/i=5\/i=6:=by omega
 rcases y with rfl|rfl|rfl|rfl|rfl|rfl|rfl<;>simpa[ZcN] using j
def Zur(n:Nat)(h:n<16):((ZbG n).toNat=48+n/\n<10)\/((ZbG n).toNat=87+n/\10<=n):=by
 have:∀n:Fin 16,((ZbG n.val).toNat=48+n.val/\n.val<10)\/((ZbG n.val).toNat=87+n.val/\10<=n.val):=by decide
 exact this ⟨n,h⟩
def Zxh{x y:Int}(j:0<=y)(q:y<16)(u:0<=x)(C:x<134217728):bits .or .u32 (x*16) y=x*16+y:=
 bits_join .u32 32 (by decide) (λn h0 D=>by simp[IntKind.wrap,IntKind.bits,IntKind.signed];omega) 4 (x*16) y (by omega) (by omega) (by omega) j q (by omega)
def GrpRel(g:Nat)(n i:Value):Prop:=∃j:Nat,j<=7/\i=.int .i64 ((7*g+j:Nat):Int)/\n=.int .u32 ((gr g / 16^(7 - j):Nat):Int)
def Zie(g:Nat)(hg:g<399)(w:World):
 Calls prog 357 #[.int .i64 g] w λe w'=>e=.returned (.int .u32 (gr g))/\Below w.heap.size w w':=by
 have hz:=ZuT;have U:∀(i:Nat) (_:i<7) (h:7*g+i<mB.size),(mB[7*g+i]'h)=ZbG (gr g / 16^(6 - i) % 16):=λi hi h=>mB_at g i hg hi h;refine calls_of_wp func357 rfl ?_;rw[litM]
 rotate_left
 kernel_rfl
 generalize mB=s at*;simp only[ntmps357,List.size_toArray,List.length_cons,List.length_nil,Nat.reduceAdd,Nat.reduceSub,Array.replicate_succ,Array.replicate_zero,List.push_toArray,List.append_toArray,List.nil_append,List.cons_append];go_wp2_with fail
 go_loop [3,4] (λn i=>GrpRel g n i) (λ_ i=>7*g+7 - (intOf i).toNat)
 case atStart=>
  refine⟨0,by omega,?_,?_⟩
  ·congr 1;omega
  ·have ae:=Zcy g;have:gr g / 16^7=0:=by omega
   show Value.int .u32 0=_
   rw[show(7:Nat) - 0=7 from rfl,this];rfl
 case round=>
  obtain⟨j,hj,rfl,rfl⟩:=hrel;by_cases D:j<7
  ·have V:=U j D (by omega);have Y:=Zcy g;have q:gr g / 16^(7 - (j+1))=gr g / 16^(7 - j)*16+gr g / 16^(6 - j) % 16:=by
    rw[show 7 - (j+1)=6 - j by omega,show 7 - j=6 - j+1 by omega,Nat.pow_succ,<-Nat.div_div_eq_div_mul];generalize gr g / 16^(6 - j)=y;omega
   have I:gr g / 16^(6 - j) % 16<16:=Nat.mod_lt _ (by decide);have L:=Zur _ I;have X:gr g / 16^(7 - j)<16777216:=by
    rw[show 7 - j=6 - j+1 by omega,Nat.pow_succ,Nat.mul_comm,<-Nat.div_div_eq_div_mul];exact Nat.lt_of_le_of_lt (Nat.div_le_self _ _) (by omega)
   have W:=QQ q;clear q U;generalize gr g / 16^(6 - j) % 16=d at*;generalize C:gr g / 16^(7 - (j+1))=n1 at*;have J:=QQ C;clear C;generalize gr g / 16^(7 - j)=n0 at*;have ad:(s[7*g+j]'(by omega)).toNat=(ZbG d).toNat:=by rw[V]
   generalize (ZbG d).toNat=c at*;have u:bits .or .u32 ((n0:Int)*16) d=(n0:Int)*16+d:=Zxh (by omega) (by omega) (by omega) (by omega);have aa:0<=((7*g+j:Nat):Int)/\((7*g+j:Nat):Int)<(s.size:Int):=by omega
   have Z:(((7*g+j:Nat):Int)).toNat=7*g+j:=by omega
   clear V;rcases L with⟨L,hd⟩|⟨L,hd⟩
   ·have O:(c:Int) - 48=d:=by omega
    go_wp2_with fail
    refine⟨⟨j+1,by omega,by congr 1,?_⟩,?_⟩
    ·rw[J.out,W.out,show(48:Int)+d - 48=(d:Int) by omega,u];congr 1
    ·simp[intOf];omega
   ·have O:(c:Int) - 39 - 48=d:=by omega
    go_wp2_with fail
    refine⟨⟨j+1,by omega,by congr 1,?_⟩,?_⟩
    ·rw[J.out,W.out,show(87:Int)+d - 39 - 48=(d:Int) by omega,u];congr 1
    ·simp[intOf];omega
  ·have N:j=7:=by omega
   subst N;have h0:gr g / 16^(7 - 7)=gr g:=by rw[Nat.sub_self,Nat.pow_zero,Nat.div_one]
   rw[h0];clear D U;go_wp2_with fail
   go_ret
   exact⟨rfl,Below.refl _ _⟩
def Zrz(p:Int)(j:p<44032\/55203<p)(w:World):
 Calls prog 334 #[.int .i32 p] w λe w'=>e=.returned (.tuple #[.int .i64 0,.bool false,.bool false])/\Below w.heap.size w w':=by
 rcases j with h|h
 ·go_enter func334,ntmps334
  go_wp2_with fail
  go_ret3
  exact⟨rfl,Below.refl _ _⟩
 ·have h0:¬p<44032:=by omega
  go_enter func334,ntmps334
  go_wp2_with fail
  go_ret3
  exact⟨rfl,Below.refl _ _⟩
def Zos(r:Nat):(2:Int)^r=((2^r:Nat):Int):=by simp
def Zor(r:Nat)(j:r<28):1<=2^r/\2^r<=268435456:=by
 refine⟨Nat.two_pow_pos r,?_⟩;have:=Nat.pow_le_pow_right (show 0<2 by decide) (show r<=28 by omega);omega
def ZuW(x r:Nat)(q:x<2^28)(j:r<28):bits .and .u32 (x:Int) (((2:Int)^r - 1) % 4294967296)=((x % 2^r:Nat):Int):=by
 have h:=Zor r j;rw[Zos,show(((2^r:Nat):Int) - 1) % 4294967296=((2^r - 1:Nat):Int) by omega,bits_and_u32_nat x _ (by omega) (by omega),Nat.and_two_pow_sub_one_eq_mod]
def ZuV(x r:Nat)(C:x<2^28)(y:r<28):(bits .and .u32 (x:Int) ((2:Int)^r % 4294967296) !=0)=(x / 2^r % 2==1):=by
 have h:=Zor r y;rw[Zos,show(((2^r:Nat):Int)) % 4294967296=((2^r:Nat):Int) by omega,bits_and_u32_nat x _ (by omega) (by omega)];have hb:x / 2^r % 2=0\/x / 2^r % 2=1:=by omega
 have j:=Nat.testBit_eq_decide_div_mod_eq (x:=x) (i:=r);rcases hb with hb|hb
 ·rw[hb] at j;have q:x&&&2^r=0:=by
   apply Nat.eq_of_testBit_eq
   intro i;rw[Nat.testBit_and,Nat.testBit_two_pow,Nat.zero_testBit];by_cases e:r=i
   ·subst e;rw[j];simp
   ·simp[e]
  rw[q,hb];rfl
 ·rw[hb] at j;have q:x&&&2^r≠0:=by
   intro e;have u:(x&&&2^r).testBit r=true:=by
    rw[Nat.testBit_and,Nat.testBit_two_pow,j];simp
   rw[e,Nat.zero_testBit] at u;cases u
  rw[hb];simp only[beq_self_eq_true,bne_iff_ne,ne_eq];omega
def Zry(n:Nat)(w0:World)(own g:Value)(wr:World):Prop:=∃k:Nat,k<=n / 28/\g=.int .i64 k/\own=.int .i64 (cnt true (28*k))/\Below w0.heap.size w0 wr
def Zlg(n:Nat)(hn:n<11172)(w:World):
 Calls prog 334 #[.int .i32 (44032+(n:Int))] w λe w'=>e=.returned (.tuple #[.int .i64 (cnt (ZaD n) n),.bool (ZaD n),.bool true])/\Below w.heap.size w w':=by
 have e0:(44032:Int)+n - 44032=n:=by omega
 have h1:¬(44032:Int)+n<44032:=by omega
 have h2:¬(55203:Int)<44032+n:=by omega
 go_enter func334,ntmps334
 go_wp2_with fail
 go_loopw [6,7] (λo g wr=>Zry n w o g wr) (λ_ g _=>n / 28 - (intOf g).toNat)
 case atStart=>exact⟨0,by omega,rfl,rfl,Below.refl _ _⟩
 case round=>
  obtain⟨k,hk,rfl,rfl,hb⟩:=hrel;by_cases ai:k<n / 28
  ·have V:=QQ (ZiK k);have D:=Zcy k;have hc:=Ze0 (28*k);have u:=λw=>Zie k (by omega) w;have j:=λw=>Zim (gr k) (by omega) w;have af:Lib.onesCount (gr k)<=28:=by
    have:=Ze0 (28*(k+1));rw[ZiK k] at this;have h3:=ZiL (gr k) 28 D (by omega);rw[Nat.mod_eq_of_lt D] at h3;exact Nat.le.intro (by rw[Nat.add_comm];exact h3)
   generalize gr k=x at*;generalize Lib.onesCount x=o at*;generalize cnt true (28*k)=O at*;generalize cnt false (28*k)=c1 at*;go_wp2_with (first|(go_at_call 357;refine MR (u _) λw1 q=>?_)|(go_at_call 356;refine MR (j _) λZ y=>?_))
   go_roundw
   case rel=>exact⟨k+1,by omega,by go_num,by rw[V.out];congr 1,(hb.trans (q.mono hb.size)).trans (y.mono (Nat.le_trans hb.size q.size))⟩
   case measure=>simp[intOf];omega
  ·have X:k=n / 28:=by omega
   subst X;have u:=λw=>Zie (n / 28) (by omega) w;have ah:=ZuW (gr (n / 28)) (n % 28) (Zcy _) (by omega);have W:=ZuV (gr (n / 28)) (n % 28) (Zcy _) (by omega);have ab:gr (n / 28) % 2^(n % 28)<2^28:=Nat.lt_of_le_of_lt (Nat.mod_le _ _) (Zcy _);have j:=λw=>Zim (gr (n / 28) % 2^(n % 28)) (by omega) w;have L:=ZiJ (n / 28) (n % 28) (by omega);have I:28*(n / 28)+n % 28=n:=by omega
   rw[I] at L;have aj:=Ze0 n;have C:ZaD n=(gr (n / 28) / 2^(n % 28) % 2==1):=rfl;rw[<-C] at W;generalize gr (n / 28) % 2^(n % 28)=low at*;generalize Lib.onesCount low=o at*;generalize gr (n / 28)=x at*;generalize N:ZaD n=b at*;have Hb:=QQ N;clear N;have Hc:=QQ L;generalize cnt true (28*(n / 28))=O at*;generalize J:cnt true n=ct at*;have Y:=QQ J;clear J;clear C I;cases b
   ·go_wp2_with (first|(go_at_call 357;refine MR (u _) λw1 q=>?_)|(go_at_call 356;refine MR (j _) λZ y=>?_))
    go_ret3
    have U:(n:Int) - ((O:Int)+o)=(cnt false n:Nat):=by have:=Hc.out;omega
    refine⟨?_,(hb.trans (q.mono hb.size)).trans (y.mono (Nat.le_trans hb.size q.size))⟩;show Ending.returned (.tuple #[.int .i64 ((n:Int) - ((O:Int)+o)),.bool false,.bool true])=_
    rw[Hb.out,U]
   ·go_wp2_with (first|(go_at_call 357;refine MR (u _) λw1 q=>?_)|(go_at_call 356;refine MR (j _) λZ y=>?_))
    go_ret3
    have U:(O:Int)+o=(cnt true n:Nat):=by have:=Hc.out;have:=Y.out;omega
    refine⟨?_,(hb.trans (q.mono hb.size)).trans (y.mono (Nat.le_trans hb.size q.size))⟩;show Ending.returned (.tuple #[.int .i64 ((O:Int)+o),.bool true,.bool true])=_
    rw[Hb.out,U]
def Zeh(k:Nat)(b:Bool)(p:Int):Prop:=(∃n:Nat,n<11172/\ZaD n=b/\cnt b n=k/\p=44032+n)\/(cnt b 11172<=k/\p=0)
open Go
def bsum(x:Nat):Nat->Nat
 |0=>0
 |r+1=>bsum x r+x / 2^r % 2
def ZnV(x:Nat):∀r,r<=64->Lib.onesCount (x % 2^r)=bsum x r
 |0,_=>by simp[Nat.mod_one,Zgh,bsum]
 |r+1,h=>by
  rw[Zgg r x (by omega),ZnV x r (by omega)];rfl
def ZhF(x:Nat):Nat:=x % 2+x / 2 % 2+x / 4 % 2+x / 8 % 2+x / 16 % 2+x / 32 % 2+x / 64 % 2+x / 128 % 2+x / 256 % 2+x / 512 % 2+x / 1024 % 2+x / 2048 % 2+x / 4096 % 2+x / 8192 % 2+x / 16384 % 2+x / 32768 % 2+x / 65536 % 2+x / 131072 % 2+x / 262144 % 2+x / 524288 % 2+x / 1048576 % 2+x / 2097152 % 2+x / 4194304 % 2+x / 8388608 % 2+x / 16777216 % 2+x / 33554432 % 2+x / 67108864 % 2+x / 134217728 % 2
def Zvl(x:Nat)(h:x<2^28):Lib.onesCount x=ZhF x:=by
 have e:=ZnV x 28 (by omega);rw[Nat.mod_eq_of_lt h] at e;rw[e];simp only[bsum,ZhF,Nat.zero_add,Nat.pow_zero,Nat.div_one]
def ZeJ:List Nat->Nat
 |[]=>0
 |x::l=>ZhF x+ZeJ l
def ZwQ:Nat.beq (ZeJ G) 2350=true:=by decide+kernel
def ZwR(l:List Nat)(x:Nat):ZeJ (l++[x])=ZeJ l+ZhF x:=by
 induction l with
 |nil=>simp[ZeJ]
 |cons y l j=>simp only[List.cons_append,ZeJ,j];rw[Nat.add_assoc]
def Zmg:∀m,m<=399->cnt true (28*m)=ZeJ (G.take m)
 |0,_=>rfl
 |m+1,h=>by
  have j:=ZgP;rw[ZiK m,Zmg m (by omega),List.take_succ_eq_append_getElem (by omega),ZwR,Zvl _ (Zcy m)];have:gr m=G[m]'(by omega):=by unfold gr;rw[List.getD_eq_getElem?_getD,List.getElem?_eq_getElem (by omega)];rfl
  rw[this]
def Zme:cnt true 11172=2350:=by
 have h:=Zmg 399 (by omega);rw[List.take_of_length_le (by rw[ZgP];omega)] at h;exact h.trans (Nat.eq_of_beq_eq_true ZwQ)
def Zmf:cnt false 11172=8822:=by
 have:=Ze0 11172;rw[Zme] at this;omega
def Ztb(b:Bool):cnt b 11172=if b then 2350 else 8822:=by
 cases b
 ·exact Zmf
 ·exact Zme
def ZfY{b:Bool}{m n:Nat}(h:m<n)(j:ZaD m=b):cnt b m<cnt b n:=by
 have u:cnt b (m+1)=cnt b m+1:=by simp[cnt,j]
 have q:=Zta b (show m+1<=n by omega);omega
def ZuF{k:Nat}{b:Bool}{p q:Int}(D:Zeh k b p)(C:Zeh k b q):p=q:=by
 rcases D with⟨m,I,y,L,rfl⟩|⟨I,rfl⟩<;>rcases C with⟨n,b1,u,J,rfl⟩|⟨b1,rfl⟩
 ·have j:m=n:=by
   rcases Nat.lt_trichotomy m n with h|h|h
   ·have:=ZfY h y;omega
   ·exact h
   ·have:=ZfY h u;omega
  rw[j]
 ·have:=ZfY (show m<11172 by omega) y;omega
 ·have:=ZfY (show n<11172 by omega) u;omega
 ·rfl
def kth_ne{k:Nat}{b:Bool}{p:Int}(h:Zeh k b p):(p≠0)↔k<cnt b 11172:=by
 rcases h with⟨m,q,j,u,rfl⟩|⟨q,rfl⟩
 ·have:=ZfY (show m<11172 by omega) j;constructor<;>intro<;>omega
 ·constructor<;>intro h<;>omega
def ZmK(q j:Nat->Nat)(h0:q 0=0)(hs:∀r,r<28->q (r+1)=q r+j r)(hb:∀r,j r=0\/j r=1)(k:Nat):∀r,r<=28->k<q r->∃u,u<r/\j u=1/\q u=k
 |0,_,h=>by rw[h0] at h;exact absurd h (Nat.not_lt_zero _)
 |r+1,C,h=>by
  have I:=hs r (by omega);have D:=hb r;by_cases y:k<q r
  ·obtain⟨u,a,b,c⟩:=ZmK q j h0 hs hb k r (by omega) y;exact⟨u,by omega,b,c⟩
  ·exact⟨r,by omega,by omega,by omega⟩
def bit01(x r:Nat):x / 2^r % 2=0\/x / 2^r % 2=1:=by omega
def Zvi(x k:Nat)(h:k<Lib.onesCount (x % 2^28)):∃j,j<28/\x / 2^j % 2=1/\Lib.onesCount (x % 2^j)=k:=
 ZmK (λr=>Lib.onesCount (x % 2^r)) (λr=>x / 2^r % 2) (by show Lib.onesCount (x % 2^0)=0;rw[Nat.pow_zero,Nat.mod_one,Zgh]) (λr q=>Zgg r x (Nat.lt_trans q (by decide))) (bit01 x) k 28 NL h
def Zmb:∀(j x:Nat),ZaJ x (j+1)=ZaJ x j&&&(ZaJ x j - 1)
 |0,_=>rfl
 |j+1,x=>Zmb j (x&&&(x - 1))
def ZiI:∀(j x:Nat),x<2^28->ZaJ x j<2^28
 |0,_,h=>h
 |j+1,_,h=>ZiI j _ (Nat.lt_of_le_of_lt Nat.and_le_left h)
def lt399{g r:Nat}(q:g<399)(j:r<28):28*g+r<11172:=by omega
def p_eq(g r:Nat):(44032:Int)+28*g+(r:Int)=44032+((28*g+r:Nat):Int):=by omega
def pick(b:Bool)(g k:Nat)(D:g<399)(q:cnt b (28*g)<=k)(u:k - cnt b (28*g)<Lib.onesCount (grp b g)):
 Zeh k b (44032+28*g+Lib.ctz 32 (ZaJ (grp b g) (k - cnt b (28*g))))/\Lib.ctz 32 (ZaJ (grp b g) (k - cnt b (28*g)))<28:=by
 have y:=Zi6 b g;obtain⟨r,j,hb,C⟩:=Zvi (grp b g) (k - cnt b (28*g)) (by rw[Nat.mod_eq_of_lt y];exact u);have hs:=sel (grp b g) r y hb;rw[C] at hs;rw[hs];refine⟨.inl ⟨28*g+r,lt399 D j,(Zui b g r j).2 hb,?_,p_eq g r⟩,j⟩;rw[Zmc b g r (Nat.le_of_lt j),C,Nat.add_sub_cancel' q]
def LA1:List Int:=[
 12288,12289,12290,183,8229,8230,168,12291,173,8213,8741,65340,8764,8216,8217,8220,8221,12308,12309,12296,
 12297,12298,12299,12300,12301,12302,12303,12304,12305,177,215,247,8800,8804,8805,8734,8756,176,8242,8243,
 8451,8491,65504,65505,65509,9794,9792,8736,8869,8978,8706,8711,8801,8786,167,8251,9734,9733,9675,9679,
 9678,9671,9670,9633,9632,9651,9650,9661,9660,8594,8592,8593,8595,8596,12307,8810,8811,8730,8765,8733,
 8757,8747,8748,8712,8715,8838,8839,8834,8835,8746,8745,8743,8744,65506]
def LA2:List Int:=[
 8658,8660,8704,8707,180,65374,711,728,733,730,729,184,731,161,191,720,8750,8721,8719,164,
 8457,8240,9665,9664,9655,9654,9828,9824,9825,9829,9831,9827,8857,9672,9635,9680,9681,9618,9636,9637,
 9640,9639,9638,9641,9832,9743,9742,9756,9758,182,8224,8225,8597,8599,8601,8598,8600,9837,9833,9834,
 9836,12927,12828,8470,13255,8482,13250,13272,8481,8364,174]
def LA6:List Int:=[
 9472,9474,9484,9488,9496,9492,9500,9516,9508,9524,9532,9473,9475,9487,9491,9499,9495,9507,9523,9515,
 9531,9547,9504,9519,9512,9527,9535,9501,9520,9509,9528,9538,9490,9489,9498,9497,9494,9493,9486,9485,
 9502,9503,9505,9506,9510,9511,9513,9514,9517,9518,9521,9522,9525,9526,9529,9530,9533,9534,9536,9537,
 9539,9540,9541,9542,9543,9544,9545,9546]
def SPN:List (Int×Int×Int):=[(41889,65281,59),(41948,65510,1),(41949,65341,33),(41982,65507,1),(42145,12593,94),(42401,8560,10),(42416,8544,10),(42433,913,17),(42450,931,7),(42465,945,17),(42482,963,7),(43681,12353,83),(43937,12449,86),(44193,1040,6),(44199,1025,1),(44200,1046,26),(44241,1072,6),(44247,1105,1),(44248,1078,26)]
def Z1(j:Int):List Int:=if j=161 then LA1 else if j=162 then LA2 else if j=166 then LA6 else []
def ZbX:List (Int×Int×Int)->Int->Int
 |[],_=>0
 |(c,t,n)::l,j=>if c<=j/\j<c+n then t+(j - c) else ZbX l j
def ZdW(j b:Int):Int:=if b<161\/254<b then 0 else if(Z1 j).isEmpty then ZbX SPN (j*256+b) else(Z1 j).getD (b - 161).toNat 0
def ZuM:LA1.length=94/\LA2.length=71/\LA6.length=68:=by decide+kernel
def ZvO:(LA1++LA2++LA6).all (λp=>decide (0<p)&&decide (p<=65535))=true:=by decide+kernel
open Go Go.RowKit
def DB(w:World):Prop:=TabAt 4 Lib.deBruijn32tab w
def ZeQ{w w':World}{B:Nat}(h:DB w)(hb:Below B w w')(hB:w.heap.size<=B):DB w':=λj q=>
 (hb.cell (p:=⟨_,j,none⟩) (Nat.lt_of_lt_of_le (World.block_lt_of_cell? _ _ (h j q)) hB)).trans (h j q)
def ZkI(k:Nat)(b:Bool)(w0:World)(e:Ending)(w':World):Prop:=∃p,e=.returned (.tuple #[.int .i32 p,.bool (p !=0)])/\Zeh k b p/\Below w0.heap.size w0 w'
def ZpY(k:Int)(j:k<0)(b:Bool)(w:World):
 Calls prog 352 #[.int .i64 k,.bool b] w λe w'=>e=.returned (.tuple #[.int .i32 0,.bool false])/\Below w.heap.size w w':=by
 go_enter func352,ntmps352
 go_wp2_with fail
 go_ret2
 exact⟨rfl,Below.refl _ _⟩
def ZsN(a b:Nat)(y:a<4294967296)(hb:b<4294967296):bits .xor .u32 (a:Int) (b:Int)=((a^^^b:Nat):Int):=by
 have u:a^^^b<2^32:=Nat.xor_lt_two_pow (by omega) (by omega);have q:(BitVec.ofInt 32 (a:Int)).toNat=a:=by
  rw[BitVec.ofInt_natCast,BitVec.toNat_ofNat];exact Nat.mod_eq_of_lt (by omega)
 have j:(BitVec.ofInt 32 (b:Int)).toNat=b:=by
  rw[BitVec.ofInt_natCast,BitVec.toNat_ofNat];exact Nat.mod_eq_of_lt (by omega)
 show IntKind.u32.wrap ((BitVec.ofInt 32 (a:Int)^^^BitVec.ofInt 32 (b:Int)).toNat:Int)=_
 rw[BitVec.toNat_xor,q,j,wrap_u32'];omega
def xor28(x:Nat)(j:x<2^28):bits .xor .u32 (x:Int) 268435455=((comp x:Nat):Int):=by
 rw[<-Ztc x j];exact ZsN x 268435455 (by omega) (by omega)
def grp_in(g:Nat):gr g=grp true g:=rfl
def Zuj(g:Nat):bits .xor .u32 (gr g:Int) 268435455=((grp false g:Nat):Int):=xor28 _ (Zcy g)
def Zvk(x:Nat)(h:x<2^28):Lib.onesCount x<=28:=by
 have j:=ZiL x 28 h NL;rw[Nat.mod_eq_of_lt h] at j;exact Nat.le.intro (by rw[Nat.add_comm];exact j)
def Tz_any(x:Nat)(j:x<4294967296)(w:World)(q:DB w):
 Calls prog 370 #[.int .u32 x] w λe w'=>e=.returned (.int .i64 (Lib.ctz 32 x))/\Below w.heap.size w w':=
 (Any7.bits_TrailingZeros32 lays7n28 x j w λ_=>q).mono λ_ _ h=>⟨h.1,by rw[h.2];exact Below.refl _ _⟩
def ZlM(n:Nat)(hn:n<2^28):bits .and .u32 (n:Int) (((n:Int) - 1) % 4294967296)=((n&&&(n - 1):Nat):Int):=by
 by_cases h0:n=0
 ·subst h0;decide
 ·rw[show((n:Int) - 1) % 4294967296=((n - 1:Nat):Int) by omega,bits_and_u32_nat n _ (by omega) (by omega)]
def ChRel(k:Nat)(b:Bool)(w0:World)(j g:Value)(wr:World):Prop:=∃m:Nat,m<=399/\g=.int .i64 m/\cnt b (28*m)<=k/\j=.int .i64 ((k - cnt b (28*m):Nat):Int)/\Below w0.heap.size w0 wr
def ChIn(x k:Nat)(q n:Value):Prop:=∃j:Nat,j<=k/\q=.int .i64 ((k - j:Nat):Int)/\n=.int .u32 ((ZaJ x j:Nat):Int)
def ZpX(k:Nat)(hk:k<=9223372036854775807)(b:Bool)(w:World)(hD:DB w):
 Calls prog 352 #[.int .i64 k,.bool b] w (ZkI k b w):=by
 generalize hP:ZkI k b w=P at*;go_enter func352,ntmps352
 go_wp2_with fail
 go_loopw [0,6] (λW g wr=>ChRel k b w W g wr) (λ_ g _=>399 - (intOf g).toNat)
 case atStart=>exact⟨0,by omega,rfl,by simp[cnt],by simp[cnt],Below.refl _ _⟩
 case round=>
  obtain⟨m,hm,rfl,ab,rfl,hb⟩:=hrel;by_cases aa:m<399
  ·have I:=λw=>Zie m aa w;have aw:=Zs8 b m;have Y:=pick b m k aa ab;have hx:=Zi6 b m;have aB:=Zvk _ hx;have U:=grp_in m;have ah:=Zuj m;have u:=λw=>Zim (grp b m) (by omega) w;have O:=λj w=>Tz_any (ZaJ (grp b m) j) (Nat.lt_trans (ZiI j _ hx) (by decide)) w;have C:=λj=>ZiI j _ hx;have N:=λj=>Zmb j (grp b m);generalize au:Lib.onesCount (grp b m)=o at*;have hr:k - cnt b (28*m)<=9223372036854775807:=by omega
   have V:k - cnt b (28*m)>=o->k - cnt b (28*(m+1))=k - cnt b (28*m) - o/\cnt b (28*(m+1))<=k:=by omega
   clear aw au;generalize k - cnt b (28*m)=r at*;by_cases hc:o<=r
   ·have Hn:=QQ (V hc);clear V Y O C N;cases b
    ·generalize grp false m=x at*;clear U;go_wp2_with (first|(go_at_call 357;refine MR (I _) λw1 D=>?_)|(go_at_call 356;refine MR (u _) λw2 J=>?_))
     go_roundw
     case rel=>exact⟨m+1,by omega,by go_num,Hn.2,by rw[Hn.1,show((r - o:Nat):Int)=(r:Int) - o by omega],(hb.trans (D.mono hb.size)).trans (J.mono (Nat.le_trans hb.size D.size))⟩
     case measure=>simp[intOf];omega
    ·rw[<-U] at u;clear U ah;go_wp2_with (first|(go_at_call 357;refine MR (I _) λw1 D=>?_)|(go_at_call 356;refine MR (u _) λw2 J=>?_))
     go_roundw
     case rel=>exact⟨m+1,by omega,by go_num,Hn.2,by rw[Hn.1,show((r - o:Nat):Int)=(r:Int) - o by omega],(hb.trans (D.mono hb.size)).trans (J.mono (Nat.le_trans hb.size D.size))⟩
     case measure=>simp[intOf];omega
   ·have L:=QQ (Y (by omega));clear V Y;cases b
    ·generalize grp false m=x at*;clear U;go_wp2_with (first|(go_at_call 357;refine MR (I _) λw1 D=>?_)|(go_at_call 356;refine MR (u _) λw2 J=>?_))
     have hB:=(hb.trans (D.mono hb.size)).trans (J.mono (Nat.le_trans hb.size D.size));have af:=ZeQ hD hB NL;clear I u D J hb hD;go_loop [0,7] (λW n=>ChIn x r W n) (λW _=>(intOf W).toNat)
     case atStart=>exact⟨0,by omega,by simp,rfl⟩
     case round=>
      obtain⟨j,hj,rfl,rfl⟩:=hrel;by_cases ac:j<r
      ·have hd:=ZlM (ZaJ x j) (C j);have hs:=QQ (N j);generalize ZaJ x j=y at*;generalize ap:r - j=q at*;clear N O C L;have hq:0<q:=by omega
       have aq:q<=1000000:=by omega
       go_wp2_with fail
       go_round
       case rel=>exact⟨j+1,by omega,by rw[show((r - (j+1):Nat):Int)=(q:Int) - 1 by omega],by rw[hs.out]⟩
       case measure=>simp[intOf];omega
      ·have ad:j=r:=by omega
       subst ad;have X:=O j;have ay:Lib.ctz 32 (ZaJ x j)<28:=L.2;have Hp:=QQ L.1;clear L N O C ac;rw[Nat.sub_self];generalize ZaJ x j=y at*;generalize Lib.ctz 32 y=z at*;go_wp2_with (first|(go_at_call 370;refine MR (X _ af) λw3 ae=>?_))
       have Z:((44032+28*(m:Int)+(z:Int)) !=0)=true:=by simp;omega
       have he:(44032+(m:Int)*28+(z:Int))=44032+28*(m:Int)+(z:Int):=by omega
       show P (.returned (.tuple #[.int .i32 (44032+(m:Int)*28+(z:Int)),.bool true])) w3
       rw[<-hP,he];exact⟨_,by rw[Z],Hp,hB.trans (ae.mono hB.size)⟩
    ·rw[<-U] at u O C N L;clear U ah;generalize gr m=x at*;go_wp2_with (first|(go_at_call 357;refine MR (I _) λw1 D=>?_)|(go_at_call 356;refine MR (u _) λw2 J=>?_))
     have hB:=(hb.trans (D.mono hb.size)).trans (J.mono (Nat.le_trans hb.size D.size));have af:=ZeQ hD hB NL;clear I u D J hb hD;go_loop [0,7] (λW n=>ChIn x r W n) (λW _=>(intOf W).toNat)
     case atStart=>exact⟨0,by omega,by simp,rfl⟩
     case round=>
      obtain⟨j,hj,rfl,rfl⟩:=hrel;by_cases ac:j<r
      ·have hd:=ZlM (ZaJ x j) (C j);have hs:=QQ (N j);generalize ZaJ x j=y at*;generalize ap:r - j=q at*;clear N O C L;have hq:0<q:=by omega
       have aq:q<=1000000:=by omega
       go_wp2_with fail
       go_round
       case rel=>exact⟨j+1,by omega,by rw[show((r - (j+1):Nat):Int)=(q:Int) - 1 by omega],by rw[hs.out]⟩
       case measure=>simp[intOf];omega
      ·have ad:j=r:=by omega
       subst ad;have X:=O j;have ay:Lib.ctz 32 (ZaJ x j)<28:=L.2;have Hp:=QQ L.1;clear L N O C ac;rw[Nat.sub_self];generalize ZaJ x j=y at*;generalize Lib.ctz 32 y=z at*;go_wp2_with (first|(go_at_call 370;refine MR (X _ af) λw3 ae=>?_))
       have Z:((44032+28*(m:Int)+(z:Int)) !=0)=true:=by simp;omega
       have he:(44032+(m:Int)*28+(z:Int))=44032+28*(m:Int)+(z:Int):=by omega
       show P (.returned (.tuple #[.int .i32 (44032+(m:Int)*28+(z:Int)),.bool true])) w3
       rw[<-hP,he];exact⟨_,by rw[Z],Hp,hB.trans (ae.mono hB.size)⟩
  ·have ax:m=399:=by omega
   subst ax;have aA:=QQ ab;clear aa ab;go_wp2_with fail
   show P (.returned (.tuple #[.int .i32 0,.bool false])) wr
   rw[<-hP];exact⟨_,rfl,.inr ⟨aA,rfl⟩,hb⟩
def Zjb{x y:Int}(j:0<=y)(q:y<16)(u:0<=x)(C:x<134217728):bits .or .i32 (x*16) y=x*16+y:=
 bits_join .i32 31 (by decide) (λn h0 D=>by simp[IntKind.wrap,IntKind.bits,IntKind.signed];omega) 4 (x*16) y (by omega) (by omega) (by omega) j q (by omega)
def Zdj(s:ByteArray)(ps:List Int):Prop:=s.data.toList=Zc8 ps/\Zlr ps
def Zdj.size{s:ByteArray}{ps:List Int}(h:Zdj s ps):s.size=5*ps.length:=by
 rw[<-Znb,<-h.1];simp
def Zdj.digit{s:ByteArray}{ps:List Int}(h:Zdj s ps){k j m:Nat}(q:m=5*k)(y:k<ps.length)(C:j<5)(D:m+j<s.size):(Zcb (ps.getD k 0))[j]?=some s[m+j]:=by
 subst q;rw[<-Zna ps k j y C,<-h.1];have u:5*k+j<s.data.toList.length:=by simpa using D
 rw[List.getElem?_eq_getElem u];rfl
def ZgL(d:Int)(c:UInt8)(hd:0<=d/\d<16)(j:c=Zc7 d)(w:World):
 Calls prog 60 #[.string ⟨#[48,49,50,51,52,53,54,55,56,57,65,66,67,68,69,70]⟩,.int .u8 (c.toNat:Int)] w λe w'=>e=.returned (.int .i64 d)/\w=w':=by
 refine(strings_IndexByte _ _ w).mono ?_;rintro e w' ⟨rfl,rfl⟩;refine⟨ZaH ?_,rfl⟩;have q:((c.toNat:Int)).toNat.toUInt8=c:=ZbN rfl;rw[q,j];exact Zm9 hd.1 hd.2
def ZpM(s:ByteArray)(ps:List Int)(h:Zdj s ps)(k:Int)(y:k<0\/ps.length<=k)(hs:s.size<=100000)(u: -100000<=k/\k<=100000)(w:World):
 Calls prog 369 #[.string s,.int .i64 k] w λe w'=>e=.returned (.tuple #[.int .i32 0,.bool false])/\Below w.heap.size w w':=by
 have q:=h.size;have j:(s.size:Int) / 5=ps.length:=by omega
 by_cases h0:k<0
 ·go_enter func369,ntmps369
  go_wp2_with fail
  go_ret2
  exact⟨rfl,Below.refl _ _⟩
 ·have C:(s.size:Int) / 5<=k:=by omega
  clear j;go_enter func369,ntmps369
  go_wp2_with fail
  go_ret2
  exact⟨rfl,Below.refl _ _⟩
def ZpL(s:ByteArray)(ps:List Int)(h:Zdj s ps)(k:Nat)(D:k<ps.length)(hs:s.size<=100000)(w:World):
 Calls prog 369 #[.string s,.int .i64 k] w λe w'=>e=.returned (.tuple #[.int .i32 (ps.getD k 0),.bool true])/\Below w.heap.size w w':=by
 have ad:=h.size;have hp:=h.2 _ (Zeq D);have I:=h.digit (j:=0) (m:=5*k) rfl D (by omega) (by omega);have d1:=h.digit (j:=1) (m:=5*k) rfl D (by omega) (by omega);have d2:=h.digit (j:=2) (m:=5*k) rfl D (by omega) (by omega);have d3:=h.digit (j:=3) (m:=5*k) rfl D (by omega) (by omega);generalize ps.getD k 0=p at*;obtain⟨O,N,L,J⟩:=Zl5 hp;simp[Zcb] at I d1 d2 d3;have C:=λw=>ZgL (p / 4096) s[5*k] O I.symm w;have y:=λw=>ZgL (p / 256 % 16) s[5*k+1] N d1.symm w;have u:=λw=>ZgL (p / 16 % 16) s[5*k+2] L d2.symm w;have q:=λw=>ZgL (p % 16) s[5*k+3] J d3.symm w;obtain⟨ab,aa⟩:=O;obtain⟨Z,Y⟩:=N;obtain⟨X,W⟩:=L;obtain⟨V,U⟩:=J;have ai:¬(s.size:Int) / 5<=k:=by omega
 have ah:(k:Int)*5=5*(k:Int):=by omega
 have af:5*k+3<s.size:=by omega
 have am:(5*(k:Int)+1).toNat=5*k+1:=by omega
 have ak:(5*(k:Int)+1+1).toNat=5*k+2:=by omega
 have aj:(5*(k:Int)+1+1+1).toNat=5*k+3:=by omega
 clear I d1 d2 d3 h;go_enter func369,ntmps369
 go_wp2_with fail
 refine wp_loop_rounds 5 ?_;rw[rounds_succ];go_wp2_with (first|(go_at_call 60;first|(refine(C _).mono ?_;clear C;rintro e w' ⟨rfl,rfl⟩)|(refine(y _).mono ?_;clear y;rintro e w' ⟨rfl,rfl⟩)|(refine(u _).mono ?_;clear u;rintro e w' ⟨rfl,rfl⟩)|(refine(q _).mono ?_;clear q;rintro e w' ⟨rfl,rfl⟩)))
 rw[rounds_succ];go_wp2_with (first|(go_at_call 60;first|(refine(C _).mono ?_;clear C;rintro e w' ⟨rfl,rfl⟩)|(refine(y _).mono ?_;clear y;rintro e w' ⟨rfl,rfl⟩)|(refine(u _).mono ?_;clear u;rintro e w' ⟨rfl,rfl⟩)|(refine(q _).mono ?_;clear q;rintro e w' ⟨rfl,rfl⟩)))
 rw[rounds_succ];go_wp2_with (first|(go_at_call 60;first|(refine(C _).mono ?_;clear C;rintro e w' ⟨rfl,rfl⟩)|(refine(y _).mono ?_;clear y;rintro e w' ⟨rfl,rfl⟩)|(refine(u _).mono ?_;clear u;rintro e w' ⟨rfl,rfl⟩)|(refine(q _).mono ?_;clear q;rintro e w' ⟨rfl,rfl⟩)))
 rw[rounds_succ];go_wp2_with (first|(go_at_call 60;first|(refine(C _).mono ?_;clear C;rintro e w' ⟨rfl,rfl⟩)|(refine(y _).mono ?_;clear y;rintro e w' ⟨rfl,rfl⟩)|(refine(u _).mono ?_;clear u;rintro e w' ⟨rfl,rfl⟩)|(refine(q _).mono ?_;clear q;rintro e w' ⟨rfl,rfl⟩)))
 rw[rounds_succ];go_wp2_with fail
 go_ret2
 refine⟨?_,Below.refl _ _⟩;have e:∀x:Int,x=p->Ending.returned (.tuple #[.int .i32 x,.bool true])=.returned (.tuple #[.int .i32 p,.bool true]):=λx hx=>by rw[hx]
 refine e _ ?_;have f1:wrap32 ((p / 4096*16+p / 256 % 16)*16)=p / 256*16:=by unfold wrap32;omega
 have f2:wrap32 ((p / 256*16+p / 16 % 16)*16)=p / 16*16:=by unfold wrap32;omega
 rw[Zjb (by omega) (by omega) (by omega) (by omega),f1,Zjb (by omega) (by omega) (by omega) (by omega),f2,Zjb (by omega) (by omega) (by omega) (by omega)];omega
