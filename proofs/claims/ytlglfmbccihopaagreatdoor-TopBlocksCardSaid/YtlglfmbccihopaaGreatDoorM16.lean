/- Lemmas for a statement on the tops; conditions: as each says. -/
import Derived.Lib.Bytealg
import Derived.Test.YtlglfmbccihopaaGreatDoorM15
set_option linter.unusedVariables false
set_option linter.unusedSimpArgs false
set_option maxRecDepth 100000
set_option maxHeartbeats 1000000
namespace Go.Proofs.YtlglfmbccihopaaGreatDoor
open Go Go.RowKit
def inC (k:Int):Int:=(161+(k+1410) / 94)*256+(161+(k+1410) % 94)
def exC (k:Int):Int:=if k<5696 then(129+k / 178)*256+Zbp (k % 178) else(161+(k - 5696) / 84)*256+Zbp ((k - 5696) % 84)
def Zcp (p:Int):Int:=if 44032≤p∧p≤55203 then(if ZF (p - 44032).toNat then inC (cnt true (p - 44032).toNat) else exC (cnt false (p - 44032).toNat)) else Z4 p
def Zc6 (c:Int):ByteArray:=if c<0 then⟨#[]⟩ else⟨#[(c / 256).toNat.toUInt8,(c % 256).toNat.toUInt8]⟩
def Zb0 (p:Int)(w0:World)(e:Ending)(w':World):Prop:=e= .returned (.tuple #[.string (Zc6 (Zcp p)),.bool (decide (0≤Zcp p))])∧Below w0.heap.size w0 w'
theorem ZjR {n:Int} (h:0≤n∧n<178):65≤Zbp n∧Zbp n≤254:=⟨(ZmJ h).2.1,(ZmJ h).2.2.1⟩
theorem Zgr {p c:Int} {w w':World} (hc:Zcp p=c)(h0:0≤c)(hb:Below w.heap.size w w'):Zb0 p w (.returned (.tuple #[.string ⟨#[(c / 256).toNat.toUInt8,(c % 256).toNat.toUInt8]⟩,.bool true])) w':=by
 refine⟨?_,hb⟩;rw [hc,decide_eq_true h0];unfold Zc6;rw [if_neg (by omega)]
theorem Zp9 {n:Nat} (hn:n<11172)(h:ZF n=true):Zcp (44032+n)=inC (cnt true n):=by
 unfold Zcp;rw [if_pos (by omega),show((44032:Int)+n - 44032).toNat=n by omega,h];rfl
theorem Zkd {n:Nat} (hn:n<11172)(h:ZF n=false):Zcp (44032+n)=exC (cnt false n):=by
 unfold Zcp;rw [if_pos (by omega),show((44032:Int)+n - 44032).toNat=n by omega,h];rfl
theorem Zp7 (p:Int):Z4 p≤44287:=by
 have h1:=Zen LA1 p;have h2:=Zen LA2 p;have h6:=Zen LA6 p;obtain⟨a,b,c⟩:=Zlm;have hs:∀k,k≤19→ZbJ (SPN.drop (19 - k)) p≤44287:=by
  intro k;induction k with
  |zero=>intro _;show ZbJ [] p≤_;simp [ZbJ]
  |succ k ih=>
   intro hk;have ih:=ih (by omega);rw [Zke (by omega:19 - (k+1)<19) p,show 19 - (k+1)+1=19 - k by omega];split
   · have:=List.all_eq_true.1 Ztb (spC (19 - (k+1)),spT (19 - (k+1)),spN (19 - (k+1))) (by
      have hl:19 - (k+1)<SPN.length:=by simp [SPN];omega
      have:SPN[19 - (k+1)]=(spC (19 - (k+1)),spT (19 - (k+1)),spN (19 - (k+1))):=by
       simp only [spC,spT,spN,List.getD_eq_getElem?_getD,List.getElem?_eq_getElem hl,Option.getD_some]
      rw [←this];exact List.getElem_mem hl)
     simp only [Bool.and_eq_true,decide_eq_true_eq] at this;omega
   · exact ih
 have:=hs 19 (by omega);rw [show SPN.drop (19 - 19)=SPN from rfl] at this;unfold Z4
 repeat' split
 all_goals omega
theorem ZnG (n:Nat)(hn:n<11172)(hi:ZF n=true)(w:World):
 Calls Tryz.prog 332 #[.int .i32 (44032+(n:Int))] w (Zb0 (44032+n) w):=by
 generalize hP:Zb0 (44032+n) w=P at*;have hr:=fun w=>Ze7 n hn w;rw [hi] at hr;have hk:=Zc8 hn hi;rw [Zg3] at hk;have hcode:=Zp9 hn hi;unfold inC at hcode;have Hc:=Lib.hid hcode;clear hcode;generalize cnt true n=k at*;have hor:bits .or .i64 ((161+((k:Int)+1410) / 94)*256) (161+((k:Int)+1410) % 94)=(161+((k:Int)+1410) / 94)*256+(161+((k:Int)+1410) % 94):=ZdI (by omega) (by omega) (by omega) (by omega);have hbd:0≤(161+((k:Int)+1410) / 94)*256+(161+((k:Int)+1410) % 94)∧(161+((k:Int)+1410) / 94)*256+(161+((k:Int)+1410) % 94)≤65535:=by omega
 have hbig:=fun w=>Big2 ((161+((k:Int)+1410) / 94)*256+(161+((k:Int)+1410) % 94)) hbd.1 hbd.2 w;obtain⟨c,hc⟩:∃c,c=(161+((k:Int)+1410) / 94)*256+(161+((k:Int)+1410) % 94):=⟨_,rfl⟩
 rw [←hc] at hor hbd hbig Hc;have hd:=hbd.1;have hd2:=hbd.2;clear hc hbd;go_enter Tryz.func332,Tryz.ntmps332
 go_wp2_with (first|(go_at_call 338;refine(hr _).mono ?_;rintro e w1 ⟨rfl,hb1⟩)|(go_at_call 19;refine(hbig _).mono ?_;rintro e w2 ⟨rfl,hb2⟩))
 show P (.returned (.tuple #[.string ⟨#[(c / 256).toNat.toUInt8,(c % 256).toNat.toUInt8]⟩,.bool true])) _
 rw [←hP];exact Zgr Hc.out hd (hb1.trans (hb2.mono hb1.size))
theorem ZnF (n:Nat)(hn:n<11172)(hi:ZF n=false)(w:World):
 Calls Tryz.prog 332 #[.int .i32 (44032+(n:Int))] w (Zb0 (44032+n) w):=by
 generalize hP:Zb0 (44032+n) w=P at*;have hr:=fun w=>Ze7 n hn w;rw [hi] at hr;have hk:=Zc8 hn hi;rw [Zg5] at hk;have hcode:=Zkd hn hi;unfold exC at hcode;generalize cnt false n=k at*;by_cases h5:(k:Int)<5696
 · rw [if_pos h5] at hcode;have Hc:=Lib.hid hcode;clear hcode;have hbk:=fun w=>ZiM ((k:Int) % 178) (by omega) w;have hbb:=ZjR (n:=(k:Int) % 178) (by omega);generalize Zbp ((k:Int) % 178)=s at*;have hor:bits .or .i64 ((129+(k:Int) / 178)*256) s=(129+(k:Int) / 178)*256+s:=ZdI (by omega) (by omega) (by omega) (by omega);have hbd:0≤(129+(k:Int) / 178)*256+s∧(129+(k:Int) / 178)*256+s≤65535:=by omega
   have hbig:=fun w=>Big2 ((129+(k:Int) / 178)*256+s) hbd.1 hbd.2 w;obtain⟨c,hc⟩:∃c,c=(129+(k:Int) / 178)*256+s:=⟨_,rfl⟩
   rw [←hc] at hor hbd hbig Hc;have hd:=hbd.1;have hd2:=hbd.2;clear hc hbd;go_enter Tryz.func332,Tryz.ntmps332
   go_wp2_with (first|(go_at_call 338;refine(hr _).mono ?_;rintro e w1 ⟨rfl,hb1⟩)|(go_at_call 355;refine(hbk _).mono ?_;rintro e w3 ⟨rfl,hb3⟩)|(go_at_call 19;refine(hbig _).mono ?_;rintro e w2 ⟨rfl,hb2⟩))
   show P (.returned (.tuple #[.string ⟨#[(c / 256).toNat.toUInt8,(c % 256).toNat.toUInt8]⟩,.bool true])) _
   rw [←hP];exact Zgr Hc.out hd ((hb1.trans (hb3.mono hb1.size)).trans (hb2.mono (Nat.le_trans hb1.size hb3.size)))
 · rw [if_neg h5] at hcode;have Hc:=Lib.hid hcode;clear hcode;have hbk:=fun w=>ZiM (((k:Int) - 5696) % 84) (by omega) w;have hbb:=ZjR (n:=((k:Int) - 5696) % 84) (by omega);generalize Zbp (((k:Int) - 5696) % 84)=s at*;have hor:bits .or .i64 ((161+((k:Int) - 5696) / 84)*256) s=(161+((k:Int) - 5696) / 84)*256+s:=ZdI (by omega) (by omega) (by omega) (by omega);have hbd:0≤(161+((k:Int) - 5696) / 84)*256+s∧(161+((k:Int) - 5696) / 84)*256+s≤65535:=by omega
   have hbig:=fun w=>Big2 ((161+((k:Int) - 5696) / 84)*256+s) hbd.1 hbd.2 w;obtain⟨c,hc⟩:∃c,c=(161+((k:Int) - 5696) / 84)*256+s:=⟨_,rfl⟩
   rw [←hc] at hor hbd hbig Hc;have hd:=hbd.1;have hd2:=hbd.2;clear hc hbd;go_enter Tryz.func332,Tryz.ntmps332
   go_wp2_with (first|(go_at_call 338;refine(hr _).mono ?_;rintro e w1 ⟨rfl,hb1⟩)|(go_at_call 355;refine(hbk _).mono ?_;rintro e w3 ⟨rfl,hb3⟩)|(go_at_call 19;refine(hbig _).mono ?_;rintro e w2 ⟨rfl,hb2⟩))
   show P (.returned (.tuple #[.string ⟨#[(c / 256).toNat.toUInt8,(c % 256).toNat.toUInt8]⟩,.bool true])) _
   rw [←hP];exact Zgr Hc.out hd ((hb1.trans (hb3.mono hb1.size)).trans (hb2.mono (Nat.le_trans hb1.size hb3.size)))
theorem ZnH (p:Int)(hp:p<44032∨55203<p)(hrng: -2147483648≤p∧p≤2147483647)(w:World)(hm:ML w):
 Calls Tryz.prog 332 #[.int .i32 p] w (Zb0 p w):=by
 have hP0:Zb0 p w=fun e w'=>e= .returned (.tuple #[.string (Zc6 (Z4 p)),.bool (decide (0≤Z4 p))])∧Below w.heap.size w w':=by
  unfold Zb0 Zcp;rw [if_neg (by omega)]
 rw [hP0];clear hP0;generalize hP:(fun e w'=>e=Ending.returned (.tuple #[.string (Zc6 (Z4 p)),.bool (decide (0≤Z4 p))])∧Below w.heap.size w w')=P at*;have hr:=fun w=>Zjl p hp w;have hoc:=fun w=>ZoB p hrng w;unfold ZgF at hoc;have hbd:=Zp7 p;generalize Z4 p=c at*;by_cases h0:0≤c
 · have hbig:=fun w=>Big2 c h0 (by omega) w;simp only [if_pos h0,decide_eq_true h0] at hoc;go_enter Tryz.func332,Tryz.ntmps332
   go_wp2_with (first|(go_at_call 338;refine(hr _).mono ?_;rintro e w1 ⟨rfl,hb1⟩)|(go_at_call 356;refine(hoc _ (Zdt hm hb1 (Nat.le_refl _))).mono ?_;rintro e w3 ⟨rfl,hb3⟩)|(go_at_call 19;refine(hbig _).mono ?_;rintro e w2 ⟨rfl,hb2⟩))
   show P (.returned (.tuple #[.string ⟨#[(c / 256).toNat.toUInt8,(c % 256).toNat.toUInt8]⟩,.bool true])) _
   rw [←hP];refine⟨?_,(hb1.trans (hb3.mono hb1.size)).trans (hb2.mono (Nat.le_trans hb1.size hb3.size))⟩;unfold Zc6;rw [if_neg (by omega),decide_eq_true h0]
 · have h2:decide (0≤c)=false:=by simp;omega
   have h3:(if 0≤c then c else 0)=0:=if_neg (by omega);simp only [h2,h3] at hoc;go_enter Tryz.func332,Tryz.ntmps332
   go_wp2_with (first|(go_at_call 338;refine(hr _).mono ?_;rintro e w1 ⟨rfl,hb1⟩)|(go_at_call 356;refine(hoc _ (Zdt hm hb1 (Nat.le_refl _))).mono ?_;rintro e w3 ⟨rfl,hb3⟩))
   show P (.returned (.tuple #[.string ⟨#[]⟩,.bool false])) _
   rw [←hP];refine⟨?_,hb1.trans (hb3.mono hb1.size)⟩;unfold Zc6;rw [if_pos (by omega),h2]
theorem ZnE (p:Int)(hr: -2147483648≤p∧p≤2147483647)(w:World)(hm:ML w):
 Calls Tryz.prog 332 #[.int .i32 p] w (Zb0 p w):=by
 by_cases hp:44032≤p∧p≤55203
 · obtain⟨n,rfl⟩:∃n:Nat,p=44032+n:=⟨(p - 44032).toNat,by omega⟩
   cases hi:ZF n
   · exact ZnF n (by omega) hi w
   · exact ZnG n (by omega) hi w
 · exact ZnH p (by omega) hr w hm
theorem Zkb (b:Bool)(k:Nat):∀N,k<cnt b N→∃n,n<N∧ZF n=b∧cnt b n=k
 |0,h=>absurd h (Nat.not_lt_zero _)
 |N+1,h=>by
  have hs:cnt b (N+1)=cnt b N+(if ZF N=b then 1 else 0):=rfl;by_cases hk:k<cnt b N
  · obtain⟨n,h1,h2,h3⟩:=Zkb b k N hk;exact⟨n,by omega,h2,h3⟩
  · by_cases he:ZF N=b
    · rw [if_pos he] at hs;exact⟨N,by omega,he,by omega⟩
    · rw [if_neg he] at hs;omega
theorem kth_ex (k:Nat)(b:Bool):∃p,Zc1 k b p:=by
 by_cases h:k<cnt b 11172
 · obtain⟨n,h1,h2,h3⟩:=Zkb b k _ h;exact⟨_,.inl ⟨n,h1,h2,h3,rfl⟩⟩
 · exact⟨0,.inr ⟨by omega,rfl⟩⟩
theorem ZhE (k:Int)(b:Bool):∃p,ZbL k b p:=by
 by_cases h:k<0
 · exact⟨0,.inl ⟨h,rfl⟩⟩
 · obtain⟨p,hp⟩:=kth_ex k.toNat b;exact⟨p,.inr ⟨by omega,hp⟩⟩
theorem row_ex (lead b:Int):∃p,ZaX lead b p:=by
 unfold ZaX;by_cases h1:b=255
 · exact⟨0,by rw [if_pos h1]⟩
 · by_cases h2:176≤lead∧lead≤200
   · simp only [if_neg h1,if_pos h2];exact ZhE _ _
   · exact⟨_,by rw [if_neg h1,if_neg h2]⟩
theorem Zsz {lead b p q:Int} (h1:ZaX lead b p)(h2:ZaX lead b q):p=q:=by
 unfold ZaX at h1 h2;by_cases e1:b=255
 · rw [if_pos e1] at h1 h2;omega
 · by_cases e2:176≤lead∧lead≤200
   · rw [if_neg e1,if_pos e2] at h1 h2;exact ZhF h1 h2
   · rw [if_neg e1,if_neg e2] at h1 h2;omega
theorem ZmW (lead b:Int):∃p,ZS lead b p:=by
 unfold ZS;by_cases h1:ZV b<0∨lead<129∨254<lead
 · exact⟨0,by rw [if_pos h1]⟩
 · by_cases h2:lead<161
   · simp only [if_neg h1,if_pos h2];exact ZhE _ _
   · by_cases h3:b<161
     · simp only [if_neg h1,if_neg h2,if_pos h3];exact ZhE _ _
     · simp only [if_neg h1,if_neg h2,if_neg h3];exact row_ex _ _
theorem ZmX {lead b p q:Int} (h1:ZS lead b p)(h2:ZS lead b q):p=q:=by
 unfold ZS at h1 h2;by_cases e1:ZV b<0∨lead<129∨254<lead
 · rw [if_pos e1] at h1 h2;omega
 · by_cases e2:lead<161
   · rw [if_neg e1,if_pos e2] at h1 h2;exact ZhF h1 h2
   · by_cases e3:b<161
     · rw [if_neg e1,if_neg e2,if_pos e3] at h1 h2;exact ZhF h1 h2
     · rw [if_neg e1,if_neg e2,if_neg e3] at h1 h2;exact Zsz h1 h2
theorem Zjv {lead b p:Int} (h:ZS lead b p)(hl:0≤lead∧lead≤255)(hb:0≤b∧b≤255)(w:World)(hD:DB w):
 Calls Tryz.prog 257 #[.int .u8 lead,.int .u8 b] w fun e w'=>e= .returned (.tuple #[.int .i32 p,.bool (p !=0)])∧Below w.heap.size w w':=
 (Zo6 lead b hl hb w hD).mono fun e w' ⟨q,h1,h2,h3⟩=>by
  rw [ZmX h h2];exact⟨h1,h3⟩
theorem Zld:ZF 1=true∧cnt true 1=1:=by decide+kernel
theorem Zle:ZF 11171=false:=by decide+kernel
theorem Zp4:cnt false 11171=8821:=by
 have h:cnt false 11172=cnt false 11171+(if ZF 11171=false then 1 else 0):=rfl;rw [Zg5,Zle] at h;simp at h;omega
theorem ZqM:ZS 176 162 44033:=by
 unfold ZS;rw [if_neg (by decide),if_neg (by decide),if_neg (by decide)];unfold ZaX;rw [if_neg (by decide),if_pos (by decide)];exact .inr ⟨by decide,.inl ⟨1,by decide,Zld.1,Zld.2,rfl⟩⟩
theorem ZqL:Zcp 55203=50770:=by
 have h:=Zkd (n:=11171) (by decide) Zle;rw [Zp4] at h;exact h.trans (by decide)
theorem ZoS (w:World)(hD:DB w)(hm:ML w):
 Calls Tryz.prog 278 #[] w fun e w'=>e= .returned (.bool true)∧Below w.heap.size w w':=by
 have hs:=fun w=>Zjv ZqM (by omega) (by omega) w;have hb:=fun w=>ZnE 55203 (by omega) w;unfold Zb0 at hb;rw [ZqL] at hb;have e1:Zc6 50770=⟨#[198,82]⟩:=by decide
 have e2:decide ((0:Int)≤50770)=true:=by decide
 have e3:((44033:Int) !=0)=true:=by decide
 rw [e1,e2] at hb;rw [e3] at hs;clear e1 e2 e3;go_enter Tryz.func278,Tryz.ntmps278
 go_wp2_with (first|(go_at_call 257;refine(hs _ hD).mono ?_;rintro e w1 ⟨rfl,hb1⟩)|(go_at_call 332;refine(hb _ (Zdt hm hb1 (Nat.le_refl _))).mono ?_;rintro e w2 ⟨rfl,hb2⟩))
 go_ret
 exact⟨rfl,hb1.trans (hb2.mono hb1.size)⟩
end Go.Proofs.YtlglfmbccihopaaGreatDoor
namespace Go.Proofs.YtlglfmbccihopaaGreatDoor
open Go
abbrev Za4:=List Int⊕Nat
def Zav (p:List Int):Za4→Za4
 | .inl l=> .inl (p++l)
 | .inr n=> .inr n
theorem Zqf (r:Za4):Zav [] r=r:=by cases r<;>rfl
theorem Zkl (a b:List Int)(r:Za4):Zav a (Zav b r)=Zav (a++b) r:=by cases r<;>simp [Zav]
def Zj (f:UInt8→UInt8→List Int):List UInt8→Nat→Za4
 |[],_=> .inl []
 |[a],i=>if a.toNat<128 then .inl [(a.toNat:Int)] else .inr i
 |a::b::q,i=>if a.toNat<128 then Zav [(a.toNat:Int)] (Zj f (b::q) (i+1)) else if f a b=[] then .inr i else Zav (f a b) (Zj f q (i+2))
section
variable (f:UInt8→UInt8→List Int)
theorem Zqh (l:List UInt8)(k:Nat)(h:k<l.length)(h1:l[k].toNat<128):Zj f (l.drop k) k=Zav [(l[k].toNat:Int)] (Zj f (l.drop (k+1)) (k+1)):=by
 rw [List.drop_eq_getElem_cons h];cases hq:l.drop (k+1) with
 |nil=>simp [Zj,h1,Zav]
 |cons b q=>simp [Zj,h1]
theorem Zqj (l:List UInt8)(k:Nat)(h:k<l.length)(h1:¬l[k].toNat<128)(h2:l.length=k+1):Zj f (l.drop k) k= .inr k:=by
 rw [List.drop_eq_getElem_cons h,List.drop_of_length_le (by omega),Zj,if_neg h1]
theorem Zqi (l:List UInt8)(k:Nat)(h:k+1<l.length)(h1:¬l[k].toNat<128)(h2:f l[k] l[k+1]=[]):Zj f (l.drop k) k= .inr k:=by
 rw [List.drop_eq_getElem_cons (by omega),List.drop_eq_getElem_cons h,Zj,if_neg h1,if_pos h2]
theorem Zqk (l:List UInt8)(k:Nat)(h:k+1<l.length)(h1:¬l[k].toNat<128)(h2:f l[k] l[k+1]≠[]):Zj f (l.drop k) k=Zav (f l[k] l[k+1]) (Zj f (l.drop (k+2)) (k+2)):=by
 rw [List.drop_eq_getElem_cons (by omega),List.drop_eq_getElem_cons h,Zj,if_neg h1,if_neg h2]
theorem Zqg (l:List UInt8)(k:Nat)(h:l.length≤k):Zj f (l.drop k) k= .inl []:=by
 rw [List.drop_of_length_le h,Zj]
theorem Zhc (hf:∀a b,∀p∈f a b,Zf p=true):∀(l:List UInt8) (i:Nat) (ps:List Int),Zj f l i= .inl ps→∀p∈ps,Zf p=true
 |[],_,ps,h,p,hp=>by rw [Zj] at h;injection h with h;subst h;simp at hp
 |[a],i,ps,h,p,hp=>by
  rw [Zj] at h;split at h
  · injection h with h;subst h;simp at hp;subst hp;rw [Zab];omega
  · cases h
 |a::b::q,i,ps,h,p,hp=>by
  rw [Zj] at h;split at h
  · have ih:=Zhc hf (b::q) (i+1);generalize Zj f (b::q) (i+1)=r at*;cases r with
    |inr n=>cases h
    |inl qs=>
     injection h with h;subst h
     simp only [List.cons_append,List.nil_append,List.mem_cons] at hp;rcases hp with rfl|hp
     · rw [Zab];omega
     · exact ih qs rfl p hp
  · split at h
    · cases h
    · have ih:=Zhc hf q (i+2);generalize Zj f q (i+2)=r at*;cases r with
      |inr n=>cases h
      |inl qs=>
       injection h with h;subst h
       rcases List.mem_append.1 hp with hp|hp
       · exact hf a b p hp
       · exact ih qs rfl p hp
theorem Zha:∀(l:List UInt8) (i n:Nat),Zj f l i= .inr n→i≤n∧n<i+l.length
 |[],_,n,h=>by rw [Zj] at h;cases h
 |[a],i,n,h=>by
  rw [Zj] at h;split at h
  · cases h
  · injection h with h;subst h;simp
 |a::b::q,i,n,h=>by
  rw [Zj] at h;split at h
  · have ih:=Zha (b::q) (i+1);generalize Zj f (b::q) (i+1)=r at*;cases r with
    |inl _=>cases h
    |inr m=>injection h with h;subst h;have:=ih m rfl;simp only [List.length_cons] at*;omega
  · split at h
    · injection h with h;subst h;simp
    · have ih:=Zha q (i+2);generalize Zj f q (i+2)=r at*;cases r with
      |inl _=>cases h
      |inr m=>injection h with h;subst h;have:=ih m rfl;simp only [List.length_cons] at*;omega
end
def utfF:Nat→List UInt8→Nat→Za4
 |0,_,_=> .inl []
 |n+1,l,i=>if l=[] then .inl [] else if Za6 (Zw l) then .inr i else Zav [((Zw l).1:Int)] (utfF n (l.drop (Zw l).2) (i+(Zw l).2))
def Zce (l:List UInt8):Za4:=utfF l.length l 0
theorem Zix:∀(n:Nat) (ps:List Int) (r:List UInt8) (i:Nat),(Zc ps++r).length≤n→(∀p∈ps,Zf p=true)→(r=[]∨Za6 (Zw r))→utfF n (Zc ps++r) i=if r=[] then .inl ps else .inr (i+(Zc ps).length)
 |0,ps,r,i,h,_,_=>by
  have h0:Zc ps++r=[]:=List.eq_nil_of_length_eq_zero (by omega);obtain⟨h1,h2⟩:=List.append_eq_nil_iff.1 h0;subst h2;have:ps=[]:=by cases ps with|nil=>rfl|cons p ps=>rw [Zax] at h1;exact absurd (List.append_eq_nil_iff.1 h1).1 (Zhg p)
  subst this;rfl
 |n+1,[],r,i,h,_,hr=>by
  rw [Zby,List.nil_append,utfF];by_cases h0:r=[]
  · rw [if_pos h0,if_pos h0]
  · rw [if_neg h0,if_neg h0,if_pos (hr.resolve_left h0)];rfl
 |n+1,p::ps,r,i,h,hp,hr=>by
  have sp:=hp p (List.mem_cons_self ..);have hl:=ZbO p;rw [Zax,List.append_assoc] at h⊢;rw [utfF,if_neg (fun e=>Zhg p (List.append_eq_nil_iff.1 e).1),if_neg (ZhP sp _),Zdy sp];simp only;rw [List.drop_left,Zix n ps r _ (by rw [List.length_append] at h;omega) (fun x hx=>hp x (List.mem_cons_of_mem _ hx)) hr];have e:((p.toNat:Nat):Int)=p:=by rw [Zab] at sp;omega
  rw [e];split
  · rfl
  · simp only [Zav,List.length_append];congr 1;omega
theorem Zt0 {l:List UInt8} {ps:List Int} (h:Good ⟨l.toArray⟩ ps):Zce l= .inl ps:=by
 have e:l=Zc ps++[]:=by simpa using h.1
 unfold Zce;rw [e,Zix _ ps [] 0 (by simp) h.2 (.inl rfl),if_pos rfl]
theorem ZtZ {l:List UInt8} {n:Nat} (h:ZaF ⟨l.toArray⟩ n):Zce l= .inr n:=by
 obtain⟨ps,r,h1,h2,h3,h4,h5⟩:=h;have e:l=Zc ps++r:=by simpa using h1
 unfold Zce;rw [e,Zix _ ps r 0 (by simp) h2 (.inr h5),if_neg h4,h3,Nat.zero_add]
theorem ZdY (l:List UInt8):(∃ps,Good ⟨l.toArray⟩ ps∧Zce l= .inl ps)∨∃n,ZaF ⟨l.toArray⟩ n∧Zce l= .inr n:=by
 rcases Zq4 ⟨l.toArray⟩ with⟨ps,h⟩|⟨n,h⟩
 · exact .inl ⟨ps,h,Zt0 h⟩
 · exact .inr ⟨n,h,ZtZ h⟩
def ZeP (big:Bool):Nat→List UInt8→Nat→Za4
 |0,_,_=> .inl []
 |n+1,l,i=>if l=[] then .inl [] else if(Zm big l).2=0 then .inr i else Zav [(Zm big l).1] (ZeP big n (l.drop (Zm big l).2) (i+(Zm big l).2))
def ZbX (big:Bool)(l:List UInt8):Za4:=ZeP big l.length l 0
theorem Ziw (big:Bool):∀(n:Nat) (ps:List Int) (r:List UInt8) (i:Nat),(ZI big ps++r).length≤n→(∀p∈ps,Zf p=true)→(r=[]∨(Zm big r).2=0)→ZeP big n (ZI big ps++r) i=if r=[] then .inl ps else .inr (i+(ZI big ps).length)
 |0,ps,r,i,h,_,_=>by
  have h0:ZI big ps++r=[]:=List.eq_nil_of_length_eq_zero (by omega);obtain⟨h1,h2⟩:=List.append_eq_nil_iff.1 h0;subst h2;have:ps=[]:=by cases ps with|nil=>rfl|cons p ps=>rw [Zd2] at h1;exact absurd (List.append_eq_nil_iff.1 h1).1 (Znr big p)
  subst this;rfl
 |n+1,[],r,i,h,_,hr=>by
  rw [Zd3,List.nil_append,ZeP];by_cases h0:r=[]
  · rw [if_pos h0,if_pos h0]
  · rw [if_neg h0,if_neg h0,if_pos (hr.resolve_left h0)];rfl
 |n+1,p::ps,r,i,h,hp,hr=>by
  have sp:=hp p (List.mem_cons_self ..);have hl:=ZeS big p;rw [Zd2,List.append_assoc] at h⊢;rw [ZeP,if_neg (fun e=>Znr big p (List.append_eq_nil_iff.1 e).1),Znv big sp,if_neg (by simp only;omega)];simp only;rw [List.drop_left,Ziw big n ps r _ (by rw [List.length_append] at h;omega) (fun x hx=>hp x (List.mem_cons_of_mem _ hx)) hr];split
  · rfl
  · simp only [Zav,List.length_append];congr 1;omega
theorem ZtV {big:Bool} {l:List UInt8} {ps:List Int} (h:Zfd big ⟨l.toArray⟩ ps):ZbX big l= .inl ps:=by
 have e:l=ZI big ps++[]:=by simpa using h.1
 unfold ZbX;rw [e,Ziw big _ ps [] 0 (by simp) h.2 (.inl rfl),if_pos rfl]
theorem ZtU {big:Bool} {l:List UInt8} {n:Nat} (h:Zfc big ⟨l.toArray⟩ n):ZbX big l= .inr n:=by
 obtain⟨ps,r,⟨h1,h2⟩,h3,h4,h5⟩:=h;have e:l=ZI big ps++r:=by simpa using h1
 unfold ZbX;rw [e,Ziw big _ ps r 0 (by simp) h2 (.inr h5),if_neg h4,h3,Nat.zero_add]
theorem Zgl (big:Bool)(l:List UInt8):(∃ps,Zfd big ⟨l.toArray⟩ ps∧ZbX big l= .inl ps)∨∃n,Zfc big ⟨l.toArray⟩ n∧ZbX big l= .inr n:=by
 rcases Zt4 big ⟨l.toArray⟩ with⟨ps,h⟩|⟨n,h⟩
 · exact .inl ⟨ps,h,ZtV h⟩
 · exact .inr ⟨n,h,ZtU h⟩
def ZeG (c:UInt8):UInt8:=if 65≤c.toNat∧c.toNat≤90 then c+32 else c
def ZbV (l:List UInt8):List UInt8:=l.map ZeG
def Zbt (c:Int):Int:=if c=1 then -1 else if 2≤c∧c≤20 then c - 2 else -2
def Zbu (c:Int):Int:=if c=2 then -1 else if 3≤c∧c≤7 then c - 3 else if 10≤c∧c≤15 then c - 5 else if 18≤c∧c≤23 then c - 7 else if 26≤c∧c≤29 then c - 9 else -2
def Za7 (c:Int):Int:=if 1≤c∧c≤17 then c - 1 else if 19≤c∧c≤29 then c - 2 else -2
def Zcm:List UInt8:=[65,66,100,67,102,103,68,69,70,106,107,108,109,110,111,112,71,72,73,115,74,75,76,77,78,79,80,81,82,83]
def ZaA (k:Nat):Int:=if Lib.indexByte Zcm (UInt8.ofNat k)<0 then 0 else 12593+Lib.indexByte Zcm (UInt8.ofNat k)
def sylZ (i m f:Int):Int:=44032+(i*21+m)*28+f
def ZeF (i m f:Int):Int:=
 if i≠ -1∧m≠ -1 then sylZ i m f else if i= -1∧m≠ -1∧f=0 then 12623+m else if i≠ -1∧m= -1∧f=0 then ZaA (65+i.toNat) else if i= -1∧m= -1∧f≠0 then ZaA (97+f.toNat) else 0
def Z6 (n:Int):Int:=
 if n<32768∨Zbt (n / 1024 % 32)= -2∨Zbu (n / 32 % 32)= -2∨Za7 (n % 32)= -2 then 0 else ZeF (Zbt (n / 1024 % 32)) (Zbu (n / 32 % 32)) (Za7 (n % 32))
theorem Zla (c:Int): -2≤Zbt c∧Zbt c≤18:=by unfold Zbt;(repeat' split)<;>omega
theorem Zlv (c:Int): -2≤Zbu c∧Zbu c≤20:=by unfold Zbu;(repeat' split)<;>omega
theorem ZkK (c:Int):Za7 c= -2∨(0≤Za7 c∧Za7 c≤27):=by unfold Za7;(repeat' split)<;>omega
theorem Zkh (k:Nat)(hk:k<256):ZaA k=0∨(12593≤ZaA k∧ZaA k≤12622):=by
 have h:(List.range 256).all (fun k=>decide (ZaA k=0∨(12593≤ZaA k∧ZaA k≤12622)))=true:=by decide+kernel
 have:=List.all_eq_true.1 h k (List.mem_range.2 hk);simpa using this
theorem Zri (n:Int):Z6 n=0∨(12593≤Z6 n∧Z6 n≤12643)∨(44032≤Z6 n∧Z6 n≤55203):=by
 have h1:=Zla (n / 1024 % 32);have h2:=Zlv (n / 32 % 32);have h3:=ZkK (n % 32);unfold Z6;generalize Zbt (n / 1024 % 32)=i at*;generalize Zbu (n / 32 % 32)=m at*;generalize Za7 (n % 32)=f at*;by_cases hb:n<32768∨i= -2∨m= -2∨f= -2
 · rw [if_pos hb];exact .inl rfl
 · rw [if_neg hb];have hc1:=Zkh (65+i.toNat) (by omega);have hc2:=Zkh (97+f.toNat) (by omega);unfold ZeF sylZ;generalize ZaA (65+i.toNat)=x at*;generalize ZaA (97+f.toNat)=y at*
   (repeat' split)<;>omega
theorem Zlg (n:Int)(h:Z6 n≠0):Zf (Z6 n)=true:=by
 have:=Zri n;rw [Zab];omega
def ZX (b:Int):Int:=if 64≤b∧b≤126 then b - 64 else if 161≤b∧b≤254 then b - 161+63 else -1
def ZsU (c:Int):Int:=if c<63 then 64+c else 161+c - 63
def B0:List Int:=[
 256,193,461,192,274,201,282,200,332,211,465,210]
def B1:List Int:=[
 7870]
def B2:List Int:=[
 7872,202,257,225,462,224,593,275,233,283,232,299,237,464,236,333]
def B3:List Int:=[
 243,466,242,363,250,468,249,470,472,474]
def B4:List Int:=[
 476,252]
def B5:List Int:=[
 7871]
def B6:List Int:=[
 7873,234,609]
def B7:List Int:=[
 12288,65292,12289,12290,65294,8226,65307,65306,65311,65281,65072,8230,8229,65104,65380,65106,183,65108,65109,65110,
 65111,65372,8211,65073,8212,65075,9588,65076,65103,65288,65289,65077,65078,65371,65373,65079,65080,12308,12309,65081,
 65082,12304,12305,65083,65084,12298,12299,65085,65086,12296,12297,65087,65088,12300,12301,65089,65090,12302,12303,65091,
 65092,65113,65114,65115,65116,65117,65118,8216,8217,8220,8221,12317,12318,8245,8242,65283,65286,65290,8251,167,
 12291,9675,9679,9651,9650,9678,9734,9733,9671,9670,9633,9632,9661,9660,12963,8453,8254,65507,65343,717,
 65097,65098,65101,65102,65099,65100,65119,65120,65121,65291,65293,215,247,177,8730,65308,65310,65309,8806,8807,
 8800,8734,8786,8801,65122,65123,65124,65125,65126,8764,8745,8746,8869,8736,8735,8895,13266,13265,8747,8750,
 8757,8756,9792,9794,9793,9737,8593,8595,8592,8594,8598,8599,8601,8600,8741,8739,65295]
def B8:List Int:=[
 65367,65368,65369,65370,913,914,915,916,917,918,919,920,921,922,923,924,925,926,927,928,
 929,931,932,933,934,935,936,937,945,946,947,948,949,950,951,952,953,954,955,956,
 957,958,959,960,961,963,964,965,966,967,968,969,12549,12550,12551,12552,12553,12554,12555,12556,
 12557,12558,12559,12560,12561,12562,12563,12564,12565,12566,12567,12568,12569,12570,12571,12572,12573,12574,12575,12576,
 12577,12578,12579,12580,12581,12582,12583,12584,12585,729,713,714,711,715]
def B9:List Int:=[
 19968,20057,19969,19971,20035,20061,20102,20108,20154,20799,20837,20843,20960,20992,20993,21147,21269,21313,21340,21448,
 19977,19979,19976,19978,20011,20024,20961,20037,20040,20063,20062,20110,20129,20800,20995,21242,21315,21449,21475,22303,
 22763,22805,22823,22899,23376,23377,23379,23544,23567,23586,23608,23665,24029,24037,24049,24050,24051,24062,24178,24318,
 24331,24339,25165,19985,19984,19981,20013,20016,20025,20043,23609,20104,20113,20117,20114,20116,20130,20161,20160,20163,
 20166,20167,20173,20170,20171,20164,20803,20801,20839,20845,20846,20844,20887,20982,20998,20999,21000,21243,21246,21247,
 21270,21305,21320,21319,21317,21342,21380,21451,21450,21453,22764,22825,22827,22826,22829,23380,23569,23588,23610,23663,
 24052,24187,24319,24340,24341,24515,25096,25142,25163,25166,25903,25991,26007,26020,26041,26085,26352,26376,26408,27424,
 27490,27513,27595,27604,27611,27663,27700,28779,29226,29238,29243,29255,29273,29275,29356,29579,19993]
def B10:List Int:=[
 19990,19989,19988,19992,20027,20045,20047,20046,20197,20184,20180,20181,20182,20183,20195,20196,20185,20190,20805,20804,
 20873,20874,20908,20985,20986,20984,21002,21152,21151,21253,21254,21271,21277,20191,21322,21321,21345,21344,21359,21358,
 21435,21487,21476,21491,21484,21486,21481,21480,21500,21496,21493,21483,21478,21482,21490,21489,21488,21477,21485,21499,
 22235,22234,22806,22830,22833,22900,22902,23381,23427,23612,24040,24039,24038,24066,24067,24179,24188,24321,24344,24343,
 24517,25098,25171,25172,25170,25169,26021,26086,26414,26412,26410,26411,26413,27491,27597,27665,27664,27704,27713,27712,
 27710,29359,29572,29577,29916,29926,29976,29983,29992,29993,30000,30001,30002,30003,30091,30333,30382,30399,30446,30683,
 30690,30707,31034,31166,31348,31435,19998,19999,20050,20051,20073,20121,20132,20134,20133,20223,20233,20249,20234,20245,
 20237,20240,20241,20239,20210,20214,20219,20208,20211,20221,20225,20235,20809,20807,20806,20808,20840]
def SP:List (Int×Int×List Int):=[(136,86,B0),(136,99,B1),(136,101,B2),(136,117,B3),(136,161,B4),(136,164,B5),(136,166,B6),(161,64,B7),(163,64,B8),(164,64,B9),(165,64,B10)]
def R136:List Int:=List.replicate 22 63++B0++List.replicate 1 63++B1++List.replicate 1 63++B2++B3++B4++List.replicate 1 63++B5++List.replicate 1 63++B6
def R161:List Int:=B7
def R163:List Int:=B8
def R164:List Int:=B9
def R165:List Int:=B10
def Zbk (c:UInt8):Nat:=if c.toNat<58 then c.toNat - 48 else c.toNat - 55
def ZdB (c:UInt8):Bool:=Nat.ble 48 c.toNat&&Nat.ble c.toNat 57||Nat.ble 65 c.toNat&&Nat.ble c.toNat 70
def Zb4:List UInt8→List Int→Bool
 |a::b::c::d::e::r,p::ps=>ZdB a&&ZdB b&&ZdB c&&ZdB d&&Nat.beq e.toNat 32&&decide (p=(Zbk a*4096+Zbk b*256+Zbk c*16+Zbk d:Nat))&&Zb4 r ps
 |[],[]=>true
 |_,_=>false
theorem Zfm {c:UInt8} (h:ZdB c=true):Zbk c<16∧Zp (Zbk c:Int)=c:=by
 have h':(48≤c.toNat∧c.toNat≤57)∨(65≤c.toNat∧c.toNat≤70):=by simpa [ZdB,Nat.ble_eq] using h
 have hb:=c.toNat_lt;rcases h' with h'|h'
 · have e:Zbk c=c.toNat - 48:=by unfold Zbk;rw [if_pos (by omega)]
   refine⟨by omega,?_⟩;unfold Zp;rw [if_pos (by omega),e];have:(48+((c.toNat - 48:Nat):Int)).toNat=c.toNat:=by omega
   rw [this];simp
 · have e:Zbk c=c.toNat - 55:=by unfold Zbk;rw [if_neg (by omega)]
   refine⟨by omega,?_⟩;unfold Zp;rw [if_neg (by omega),e];have:(55+((c.toNat - 55:Nat):Int)).toNat=c.toNat:=by omega
   rw [this];simp
theorem Zk7:∀(l:List UInt8) (ps:List Int),Zb4 l ps=true→l=Zu ps
 |a::b::c::d::e::r,p::ps,h=>by
  simp only [Zb4,Bool.and_eq_true,decide_eq_true_eq] at h;obtain⟨⟨⟨⟨⟨⟨h1,h2⟩,h3⟩,h4⟩,h5⟩,h6⟩,h7⟩:=h;have ih:=Zk7 r ps h7;obtain⟨a1,a2⟩:=Zfm h1;obtain⟨b1,b2⟩:=Zfm h2;obtain⟨c1,c2⟩:=Zfm h3;obtain⟨d1,d2⟩:=Zfm h4;have e5:e=32:=by
   have:=Nat.eq_of_beq_eq_true h5;exact UInt8.toNat_inj.1 this
  have f1:p / 4096=(Zbk a:Int):=by omega
  have f2:p / 256 % 16=(Zbk b:Int):=by omega
  have f3:p / 16 % 16=(Zbk c:Int):=by omega
  have f4:p % 16=(Zbk d:Int):=by omega
  rw [ZfH,Zi,f1,f2,f3,f4,a2,b2,c2,d2,←ih,e5];rfl
 |[],[],_=>rfl
 |[],_::_,h=>by simp [Zb4] at h
 |_::_,[],h=>by simp [Zb4] at h
 |[_],_::_,h=>by simp [Zb4] at h
 |[_,_],_::_,h=>by simp [Zb4] at h
 |[_,_,_],_::_,h=>by simp [Zb4] at h
 |[_,_,_,_],_::_,h=>by simp [Zb4] at h
def Zkf (lead:Int):Int→List Int→List (Int×Int)
 |_,[]=>[]
 |c,p::ps=>(lead*256+ZsU c,p)::Zkf lead (c+1) ps
def Zhl:List (Int×Int×List Int)→List (Int×Int)
 |[]=>[]
 |t::l=>Zkf t.1 (ZX t.2.1) t.2.2++Zhl l
def RL:List (Int×Int×List Int):=[(136,64,R136),(161,64,R161),(163,64,R163),(164,64,R164),(165,64,R165)]
def ZaB:List (Int×Int×List Int)→Int→Int→Int
 |[],_,_=>0
 |t::l,lead,c=>if t.1=lead∧0≤c - ZX t.2.1∧c - ZX t.2.1<t.2.2.length then t.2.2.getD (c - ZX t.2.1).toNat 0 else ZaB l lead c
theorem Zhm:Zhl SP=(Zhl RL).filter fun t=>decide (t.2≠63):=by decide+kernel
theorem ZpX (b:Int): -1≤ZX b∧ZX b<157:=by unfold ZX;repeat' split;all_goals omega
theorem Zs6:SP.all (fun t=>t.2.2.all fun p=>decide (128<p∧p≤65535∧(p<55296∨57343<p)))=true:=by decide+kernel
theorem Zij {t:Int×Int×List Int} (ht:t∈SP):∀p∈t.2.2,128<p∧p≤65535∧(p<55296∨57343<p):=by
 intro p hp;have:=List.all_eq_true.1 (List.all_eq_true.1 Zs6 t ht) p hp;simpa using this
theorem ZkY {l:List Int} {k:Nat} (h:k<l.length):l.getD k 0∈l:=by
 rw [List.getD_eq_getElem?_getD,List.getElem?_eq_getElem h];simp
theorem ZrQ {l:List (Int×Int×List Int)} (hl:∀t∈l,t∈SP)(lead c:Int):
 ZaB l lead c=0∨(128<ZaB l lead c∧ZaB l lead c≤65535∧(ZaB l lead c<55296∨57343<ZaB l lead c)):=by
 induction l with
 |nil=>exact Or.inl rfl
 |cons t l ih=>
  simp only [ZaB];split
  · rename_i hc
    have hm:t.2.2.getD (c - ZX t.2.1).toNat 0∈t.2.2:=ZkY (by omega);exact Or.inr (Zij (hl t (by simp)) _ hm)
  · exact ih fun x hx=>hl x (by simp [hx])
end Go.Proofs.YtlglfmbccihopaaGreatDoor
namespace Go.Proofs.YtlglfmbccihopaaGreatDoor
open Go Go.RowKit
theorem Zhw {x y:Int} (hy₀:0≤y)(hy:y<16)(hx₀:0≤x)(hx:x<134217728):bits .or .i32 (x*16) y=x*16+y:=
 bits_join .i32 31 (by decide) (fun n h0 h1=>by simp [IntKind.wrap,IntKind.bits,IntKind.signed];omega) 4 (x*16) y (by omega) (by omega) (by omega) hy₀ hy (by omega)
theorem Zgv (b:Int)(hb: -1000≤b∧b≤1000)(w:World):
 Calls Tryz.prog 347 #[.int .i64 b] w fun e w'=>e= .returned (.int .i64 (ZX b))∧w=w':=by
 have h0:=hb.1;have h1:=hb.2;go_enter Tryz.func347,Tryz.ntmps347
 go_wp2
 all_goals go_ret
 all_goals refine⟨ZaC ?_,rfl⟩
 all_goals unfold ZX
 all_goals repeat' split
 all_goals omega
def Hex (s:ByteArray)(ps:List Int):Prop:=s.data.toList=Zu ps∧ZgO ps
theorem Hex.size {s:ByteArray} {ps:List Int} (h:Hex s ps):s.size=5*ps.length:=by
 rw [←Zk6,←h.1];simp
theorem Hex.digit {s:ByteArray} {ps:List Int} (h:Hex s ps){k j m:Nat} (hm:m=5*k)(hk:k<ps.length)(hj:j<5)(hi:m+j<s.size):(Zi (ps.getD k 0))[j]? =some s[m+j]:=by
 subst hm;rw [←Zk5 ps k j hk hj,←h.1];have hl:5*k+j<s.data.toList.length:=by simpa using hi
 rw [List.getElem?_eq_getElem hl];rfl
theorem ZeZ (d:Int)(c:UInt8)(hd:0≤d∧d<16)(hc:c=Zp d)(w:World):
 Calls Tryz.prog 233 #[.string ⟨#[48,49,50,51,52,53,54,55,56,57,65,66,67,68,69,70]⟩,.int .u8 (c.toNat:Int)] w fun e w'=>e= .returned (.int .i64 d)∧w=w':=by
 refine(Tryz.strings_IndexByte _ _ w).mono ?_;rintro e w' ⟨rfl,rfl⟩;refine⟨ZaC ?_,rfl⟩;have e1:((c.toNat:Int)).toNat.toUInt8=c:=ZaS rfl;rw [e1,hc];exact ZfE hd.1 hd.2
theorem At_out (s:ByteArray)(ps:List Int)(h:Hex s ps)(k:Int)(hk:k<0∨ps.length≤k)(hs:s.size≤100000)(hkb: -100000≤k∧k≤100000)(w:World):
 Calls Tryz.prog 349 #[.string s,.int .i64 k] w fun e w'=>e= .returned (.tuple #[.int .i32 0,.bool false])∧Below w.heap.size w w':=by
 have hsz:=h.size;have hdiv:(s.size:Int) / 5=ps.length:=by omega
 by_cases h0:k<0
 · go_enter Tryz.func349,Tryz.ntmps349
   go_wp2_with fail
   go_ret2
   exact⟨rfl,Below.refl _ _⟩
 · have h1:(s.size:Int) / 5≤k:=by omega
   clear hdiv;go_enter Tryz.func349,Tryz.ntmps349
   go_wp2_with fail
   go_ret2
   exact⟨rfl,Below.refl _ _⟩
theorem At_in (s:ByteArray)(ps:List Int)(h:Hex s ps)(k:Nat)(hk:k<ps.length)(hs:s.size≤100000)(w:World):
 Calls Tryz.prog 349 #[.string s,.int .i64 k] w fun e w'=>e= .returned (.tuple #[.int .i32 (ps.getD k 0),.bool true])∧Below w.heap.size w w':=by
 have hsz:=h.size;have hp:=h.2 _ (Zc9 hk);have d0:=h.digit (j:=0) (m:=5*k) rfl hk (by omega) (by omega);have d1:=h.digit (j:=1) (m:=5*k) rfl hk (by omega) (by omega);have d2:=h.digit (j:=2) (m:=5*k) rfl hk (by omega) (by omega);have d3:=h.digit (j:=3) (m:=5*k) rfl hk (by omega) (by omega);generalize ps.getD k 0=p at*;obtain⟨q0,q1,q2,q3⟩:=Zdu hp;simp [Zi] at d0 d1 d2 d3;have D0:=fun w=>ZeZ (p / 4096) s[5*k] q0 d0.symm w;have D1:=fun w=>ZeZ (p / 256 % 16) s[5*k+1] q1 d1.symm w;have D2:=fun w=>ZeZ (p / 16 % 16) s[5*k+2] q2 d2.symm w;have D3:=fun w=>ZeZ (p % 16) s[5*k+3] q3 d3.symm w;obtain⟨q00,q01⟩:=q0;obtain⟨q10,q11⟩:=q1;obtain⟨q20,q21⟩:=q2;obtain⟨q30,q31⟩:=q3;have hge:¬(s.size:Int) / 5≤k:=by omega
 have hm':(k:Int)*5=5*(k:Int):=by omega
 have hmb:5*k+3<s.size:=by omega
 have hA1:(5*(k:Int)+1).toNat=5*k+1:=by omega
 have hA2:(5*(k:Int)+1+1).toNat=5*k+2:=by omega
 have hA3:(5*(k:Int)+1+1+1).toNat=5*k+3:=by omega
 clear d0 d1 d2 d3 h;go_enter Tryz.func349,Tryz.ntmps349
 go_wp2_with fail
 refine wp_loop_rounds 5 ?_;rw [rounds_succ];go_wp2_with (first|(go_at_call 233;first|(refine(D0 _).mono ?_;clear D0;rintro e w' ⟨rfl,rfl⟩)|(refine(D1 _).mono ?_;clear D1;rintro e w' ⟨rfl,rfl⟩)|(refine(D2 _).mono ?_;clear D2;rintro e w' ⟨rfl,rfl⟩)|(refine(D3 _).mono ?_;clear D3;rintro e w' ⟨rfl,rfl⟩)))
 rw [rounds_succ];go_wp2_with (first|(go_at_call 233;first|(refine(D0 _).mono ?_;clear D0;rintro e w' ⟨rfl,rfl⟩)|(refine(D1 _).mono ?_;clear D1;rintro e w' ⟨rfl,rfl⟩)|(refine(D2 _).mono ?_;clear D2;rintro e w' ⟨rfl,rfl⟩)|(refine(D3 _).mono ?_;clear D3;rintro e w' ⟨rfl,rfl⟩)))
 rw [rounds_succ];go_wp2_with (first|(go_at_call 233;first|(refine(D0 _).mono ?_;clear D0;rintro e w' ⟨rfl,rfl⟩)|(refine(D1 _).mono ?_;clear D1;rintro e w' ⟨rfl,rfl⟩)|(refine(D2 _).mono ?_;clear D2;rintro e w' ⟨rfl,rfl⟩)|(refine(D3 _).mono ?_;clear D3;rintro e w' ⟨rfl,rfl⟩)))
 rw [rounds_succ];go_wp2_with (first|(go_at_call 233;first|(refine(D0 _).mono ?_;clear D0;rintro e w' ⟨rfl,rfl⟩)|(refine(D1 _).mono ?_;clear D1;rintro e w' ⟨rfl,rfl⟩)|(refine(D2 _).mono ?_;clear D2;rintro e w' ⟨rfl,rfl⟩)|(refine(D3 _).mono ?_;clear D3;rintro e w' ⟨rfl,rfl⟩)))
 rw [rounds_succ];go_wp2_with fail
 go_ret2
 refine⟨?_,Below.refl _ _⟩;have e:∀x:Int,x=p→Ending.returned (.tuple #[.int .i32 x,.bool true])= .returned (.tuple #[.int .i32 p,.bool true]):=fun x hx=>by rw [hx]
 refine e _ ?_;have f1:wrap32 ((p / 4096*16+p / 256 % 16)*16)=p / 256*16:=by unfold wrap32;omega
 have f2:wrap32 ((p / 256*16+p / 16 % 16)*16)=p / 16*16:=by unfold wrap32;omega
 rw [Zhw (by omega) (by omega) (by omega) (by omega),f1,Zhw (by omega) (by omega) (by omega) (by omega),f2,Zhw (by omega) (by omega) (by omega) (by omega)];omega
def sB (n:Nat):ByteArray:=⟨(Zu (SP.getD n (0,0,[])).2.2).toArray⟩
theorem lit (n:Nat)(d:Array UInt8)(h:Zb4 d.toList (SP.getD n (0,0,[])).2.2=true):ByteArray.mk d=sB n:=by
 have:=Zk7 _ _ h;unfold sB;rw [←this]
def TW:List (Int×Int×Int):=[(98,202,772),(100,202,780),(163,234,772),(165,234,780)]
def Zgj:Value:= .agg #[.int .i64 98,.int .i32 202,.int .i32 772,.int .i64 100,.int .i32 202,.int .i32 780,.int .i64 163,.int .i32 234,.int .i32 772,.int .i64 165,.int .i32 234,.int .i32 780]
def Zik:Value:= .agg #[.int .i64 136,.int .i64 86,.string (sB 0),.int .i64 136,.int .i64 99,.string (sB 1),.int .i64 136,.int .i64 101,.string (sB 2),.int .i64 136,.int .i64 117,.string (sB 3),.int .i64 136,.int .i64 161,.string (sB 4),.int .i64 136,.int .i64 164,.string (sB 5),.int .i64 136,.int .i64 166,.string (sB 6),.int .i64 161,.int .i64 64,.string (sB 7),.int .i64 163,.int .i64 64,.string (sB 8),.int .i64 164,.int .i64 64,.string (sB 9),.int .i64 165,.int .i64 64,.string (sB 10)]
def ZcJ (n:Nat):Int:=(SP.getD n (0,0,[])).1
def Zbd (n:Nat):Int:=(SP.getD n (0,0,[])).2.1
def Za9 (n:Nat):List Int:=(SP.getD n (0,0,[])).2.2
theorem Zps (w:World):Calls Tryz.prog 316 #[] w fun e w'=>e= .returned Zgj∧Below w.heap.size w w':=by
 go_enter Tryz.func316,Tryz.ntmps316
 go_wp2_with fail
 refine bodyPost_ret (v:=Zgj) (by simp [results,Tryz.results316,go_sem,Zgj]) rfl ⟨rfl,(Below.refl _ w).alloc (Nat.le_refl _) _⟩
theorem ZlD {ops:Array Oper} {rest:List Oper} {o:Oper} {a:Act} {w:World} {Q:Exit→Act→World→Prop} (hg:o.guard=none)(t:TypeId)(parts:Array (Nat×Operand))(v:Array Value)(ho:o.op= .build t parts)
 (hf:Tryz.prog.built t (parts.map fun(i,x)=>(i,a.eval x)).toList=some v)
 (h:wpList Tryz.prog ops Q rest (a.put o.dst (.agg v)) w):wpList Tryz.prog ops Q (o::rest) a w:=
 wpList_build hg t parts ho (by rw [hf];rfl) (by rw [hf];exact h)
theorem Zpj (w:World):Calls Tryz.prog 348 #[] w fun e w'=>e= .returned Zik∧Below w.heap.size w w':=by
 refine calls_of_wp Tryz.func348 rfl ?_;rw [lit 0]
 rotate_left
 kernel_rfl
 rw [lit 1]
 rotate_left
 kernel_rfl
 rw [lit 2]
 rotate_left
 kernel_rfl
 rw [lit 3]
 rotate_left
 kernel_rfl
 rw [lit 4]
 rotate_left
 kernel_rfl
 rw [lit 5]
 rotate_left
 kernel_rfl
 rw [lit 6]
 rotate_left
 kernel_rfl
 rw [lit 7]
 rotate_left
 kernel_rfl
 rw [lit 8]
 rotate_left
 kernel_rfl
 rw [lit 9]
 rotate_left
 kernel_rfl
 rw [lit 10]
 rotate_left
 kernel_rfl
 unfold Zik;generalize sB 0=s0;generalize sB 1=s1;generalize sB 2=s2;generalize sB 3=s3;generalize sB 4=s4;generalize sB 5=s5;generalize sB 6=s6;generalize sB 7=s7;generalize sB 8=s8;generalize sB 9=s9;generalize sB 10=s10;simp only [Tryz.ntmps348,List.size_toArray,List.length_nil,Nat.reduceSub,Array.replicate_succ,Array.replicate_zero,List.push_toArray,List.append_toArray,List.nil_append,List.cons_append];go_wp2_with (first|(refine ZlD rfl 376 _ #[.int .i64 136,.int .i64 86,.string s0,.int .i64 136,.int .i64 99,.string s1,.int .i64 136,.int .i64 101,.string s2,.int .i64 136,.int .i64 117,.string s3,.int .i64 136,.int .i64 161,.string s4,.int .i64 136,.int .i64 164,.string s5,.int .i64 136,.int .i64 166,.string s6,.int .i64 161,.int .i64 64,.string s7,.int .i64 163,.int .i64 64,.string s8,.int .i64 164,.int .i64 64,.string s9,.int .i64 165,.int .i64 64,.string s10] rfl (by kernel_rfl) ?_)|(refine wpList_store_row rfl 376 _ _ rfl w.heap.size #[.int .i64 136,.int .i64 86,.string s0,.int .i64 136,.int .i64 99,.string s1,.int .i64 136,.int .i64 101,.string s2,.int .i64 136,.int .i64 117,.string s3,.int .i64 136,.int .i64 161,.string s4,.int .i64 136,.int .i64 164,.string s5,.int .i64 136,.int .i64 166,.string s6,.int .i64 161,.int .i64 64,.string s7,.int .i64 163,.int .i64 64,.string s8,.int .i64 164,.int .i64 64,.string s9,.int .i64 165,.int .i64 64,.string s10] rfl rfl _ _ (heap_alloc_new w _) (by kernel_rfl) (by rfl) (by simp [Value.oneCell']) ?_;rw [World.setRow_alloc_new]))
 refine bodyPost_ret (results_cell_row rfl _ _ w.heap.size _ _ _ _ rfl (heap_alloc_new w _) Tryz.underlying376 rfl (by kernel_rfl)) rfl ⟨rfl,(Below.refl _ w).alloc (Nat.le_refl _) _⟩
theorem lt11 {k:Nat} (h:k<11):k=0∨k=1∨k=2∨k=3∨k=4∨k=5∨k=6∨k=7∨k=8∨k=9∨k=10:=by omega
theorem idx11 {k:Nat} (hk:k<11)(w:World):(Instr.index 376 Zik (.int .i64 k)).run Tryz.prog w= .ok (.agg #[.int .i64 (ZcJ k),.int .i64 (Zbd k),.string (sB k)]) w:=by
 rcases lt11 hk with rfl|rfl|rfl|rfl|rfl|rfl|rfl|rfl|rfl|rfl|rfl
 all_goals kernel_rfl
theorem idx4 {k:Nat} (hk:k<4)(w:World):(Instr.index 354 Zgj (.int .i64 k)).run Tryz.prog w= .ok (.agg #[.int .i64 (TW.getD k (0,0,0)).1,.int .i32 (TW.getD k (0,0,0)).2.1,.int .i32 (TW.getD k (0,0,0)).2.2]) w:=by
 have h4:k=0∨k=1∨k=2∨k=3:=by omega
 rcases h4 with rfl|rfl|rfl|rfl
 all_goals rfl
def Zph (V:Value):Prop:=∀k:Nat,k<11→∀w,(Instr.index 376 V (.int .i64 k)).run Tryz.prog w= .ok (.agg #[.int .i64 (ZcJ k),.int .i64 (Zbd k),.string (sB k)]) w
def TwosOf (V:Value):Prop:=∀k:Nat,k<4→∀w,(Instr.index 354 V (.int .i64 k)).run Tryz.prog w= .ok (.agg #[.int .i64 (TW.getD k (0,0,0)).1,.int .i32 (TW.getD k (0,0,0)).2.1,.int .i32 (TW.getD k (0,0,0)).2.2]) w
theorem Zpi (w:World):Calls Tryz.prog 348 #[] w fun e w'=>∃V,e= .returned V∧Zph V∧Below w.heap.size w w':=
 (Zpj w).mono fun _ _ h=>⟨_,h.1,fun _ hk w=>idx11 hk w,h.2⟩
theorem Zpr (w:World):Calls Tryz.prog 316 #[] w fun e w'=>∃V,e= .returned V∧TwosOf V∧Below w.heap.size w w':=
 (Zps w).mono fun _ _ h=>⟨_,h.1,fun _ hk w=>idx4 hk w,h.2⟩
end Go.Proofs.YtlglfmbccihopaaGreatDoor
