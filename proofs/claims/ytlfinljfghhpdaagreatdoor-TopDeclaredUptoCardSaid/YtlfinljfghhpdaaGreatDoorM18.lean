/- Lemmas for a statement on the tops; conditions: as each says. -/
import Derived.Lib.Bytealg
import Derived.Test.YtlfinljfghhpdaaGreatDoorM17
set_option linter.unusedVariables false
set_option linter.unusedSimpArgs false
set_option maxRecDepth 100000
set_option maxHeartbeats 1000000
namespace Go.Proofs.YtlfinljfghhpdaaGreatDoor
open Go Go.RowKit
theorem Zne (code:Int):∀l:List (Int×Int×Int),(∀s∈l,s.1+s.2.2≤code)→ZaV l code=0
 |[],_=>rfl
 |(c,t,n)::l,h=>by
  have h1:=h (c,t,n) (by simp);unfold ZaV;rw [if_neg (by simp only at h1;omega)];exact Zne code l fun s hs=>h s (by simp [hs])
theorem Ztk (lead b:Int)(hl:161≤lead∧lead≤254)(hb:161≤b∧b≤254):Zb3 lead b=Zb2 lead b:=by
 by_cases h:lead≤172
 · have:=List.all_eq_true.1 (List.all_eq_true.1 Ztj lead (Zsq ⟨hl.1,h⟩)) b (Zsp hb);exact(eqI_eq this).symm
 · have h1:Zb3 lead b=0:=by
    unfold Zb3;rw [if_neg (by omega),if_neg (by omega),if_neg (by omega),if_neg (by omega),if_neg (by omega),if_neg (by omega),if_neg (by omega),if_neg (by omega),if_neg (by omega)]
   have h2:(Zr lead).isEmpty=true:=by
    unfold Zr;rw [if_neg (by omega),if_neg (by omega),if_neg (by omega)];rfl
   unfold Zb2;rw [h1,if_neg (by omega),if_pos h2,Zne];intro s hs;have:=List.all_eq_true.1 Zt0 s hs;simp only [Bool.and_eq_true,decide_eq_true_eq] at this;omega
def RcIs (p c:Int):Prop:=(∃l b:Int,161≤l∧l≤172∧161≤b∧b≤254∧Zb3 l b=p∧c=l*256+b)∨(c= -1∧∀l b:Int,161≤l→l≤172→161≤b→b≤254→Zb3 l b≠p)
def ZgK (p:Int)(w0:World)(e:Ending)(w':World):Prop:=∃c,e= .returned (.int .i64 c)∧RcIs p c∧Below w0.heap.size w0 w'
def RcRel (p:Int)(w0:World)(l:Value)(wr:World):Prop:=∃x:Int,161≤x∧x≤173∧l= .int .i64 x∧(∀l b:Int,161≤l→l<x→161≤b→b≤254→Zb3 l b≠p)∧Below w0.heap.size w0 wr
def RcIn (p x:Int)(w0:World)(b:Value)(wr:World):Prop:=∃y:Int,161≤y∧y≤255∧b= .int .i64 y∧(∀b:Int,161≤b→b<y→Zb3 x b≠p)∧Below w0.heap.size w0 wr
theorem Zpu (p:Int)(w:World):
 Calls Tryz.prog 29 #[.int .i32 p] w (ZgK p w):=by
 generalize hP:ZgK p w=P at*;go_enter Tryz.func29,Tryz.ntmps29
 go_wp2_with fail
 go_loopw [3] (fun l wr=>RcRel p w l wr) (fun l _=>173 - (intOf l).toNat)
 case atStart=>exact⟨161,by omega,by omega,rfl,fun l b h1 h2=>by omega,Below.refl _ _⟩
 case round=>
  obtain⟨x,hx1,hx2,rfl,hno,hb⟩:=hrel;have Hno:=Lib.hid hno;clear hno;by_cases hx:x≤172
  · go_wp2_with fail
    obtain⟨wo,rfl⟩:∃wo:World,wo=wr:=⟨_,rfl⟩
    go_loopw [4] (fun b wr=>RcIn p x w b wr) (fun b _=>255 - (intOf b).toNat)
    case atStart=>exact⟨161,by omega,by omega,rfl,fun b h1 h2=>by omega,hb⟩
    case round=>
     obtain⟨y,hy1,hy2,rfl,hin,hbr⟩:=hrel;have Hin:=Lib.hid hin;clear hin;by_cases hy:y≤254
     · have hk:=fun w=>Zpg x y ⟨hy1,hy⟩ w;generalize hv:Zb3 x y=v at*;have Hv:=Lib.hid hv;clear hv;by_cases he:v=p
       · subst he;go_wp2_with (first|(go_at_call 55;refine(hk _).mono ?_;rintro e w2 ⟨rfl,hb2⟩))
         show P (.returned (.int .i64 (x*256+y))) _
         rw [←hP];exact⟨_,rfl,.inl ⟨x,y,hx1,hx,hy1,hy,Hv.out,rfl⟩,hbr.trans (hb2.mono hbr.size)⟩
       · have hne:(v==p)=false:=by simpa using he
         go_wp2_with (first|(go_at_call 55;refine(hk _).mono ?_;rintro e w2 ⟨rfl,hb2⟩))
         go_roundw
         case rel=>
          refine⟨y+1,by omega,by omega,rfl,?_,hbr.trans (hb2.mono hbr.size)⟩;intro b h1 h2;by_cases e:b=y
          · subst e;rw [Hv.out];exact he
          · exact Hin.out b h1 (by omega)
         case measure=>simp [intOf];omega
     · go_wp2_with fail
       go_roundw
       case rel=>
        refine⟨x+1,by omega,by omega,rfl,?_,hbr⟩;intro l b h1 h2 h3 h4;by_cases e:l=x
        · subst e;exact Hin.out b h3 (by omega)
        · exact Hno.out l b h1 (by omega) h3 h4
       case measure=>simp [intOf];omega
  · go_wp2_with fail
    show P (.returned (.int .i64 (-1))) _
    rw [←hP];exact⟨_,rfl,.inr ⟨rfl,fun l b h1 h2 h3 h4=>Hno.out l b h1 (by omega) h3 h4⟩,hb⟩
theorem Zkn (b:Bool)(k:Nat):∀N,k<cnt b N→∃n,n<N∧Zn n=b∧cnt b n=k
 |0,h=>absurd h (Nat.not_lt_zero _)
 |N+1,h=>by
  have hs:cnt b (N+1)=cnt b N+(if Zn N=b then 1 else 0):=rfl;by_cases hk:k<cnt b N
  · obtain⟨n,h1,h2,h3⟩:=Zkn b k N hk;exact⟨n,by omega,h2,h3⟩
  · by_cases he:Zn N=b
    · rw [if_pos he] at hs;exact⟨N,by omega,he,by omega⟩
    · rw [if_neg he] at hs;omega
theorem kth_ex (k:Nat)(b:Bool):∃p,ZcQ k b p:=by
 by_cases h:k<cnt b 11172
 · obtain⟨n,h1,h2,h3⟩:=Zkn b k _ h;exact⟨_,.inl ⟨n,h1,h2,h3,rfl⟩⟩
 · exact⟨0,.inr ⟨by omega,rfl⟩⟩
theorem ZhK (k:Int)(b:Bool):∃p,ZbG k b p:=by
 by_cases h:k<0
 · exact⟨0,.inl ⟨h,rfl⟩⟩
 · obtain⟨p,hp⟩:=kth_ex k.toNat b;exact⟨p,.inr ⟨by omega,hp⟩⟩
theorem row_ex (lead b:Int):∃p,Za9 lead b p:=by
 unfold Za9;by_cases h1:b=255
 · exact⟨0,by rw [if_pos h1]⟩
 · by_cases h2:176≤lead∧lead≤200
   · simp only [if_neg h1,if_pos h2];exact ZhK _ _
   · exact⟨_,by rw [if_neg h1,if_neg h2]⟩
theorem Ztl {lead b p q:Int} (h1:Za9 lead b p)(h2:Za9 lead b q):p=q:=by
 unfold Za9 at h1 h2;by_cases e1:b=255
 · rw [if_pos e1] at h1 h2;omega
 · by_cases e2:176≤lead∧lead≤200
   · rw [if_neg e1,if_pos e2] at h1 h2;exact ZhL h1 h2
   · rw [if_neg e1,if_neg e2] at h1 h2;omega
theorem Ziq (lead b:Int):∃p,Z2 lead b p:=by
 unfold Z2;by_cases h1:ZW b<0∨lead<129∨254<lead
 · exact⟨0,by rw [if_pos h1]⟩
 · by_cases h2:lead<161
   · simp only [if_neg h1,if_pos h2];exact ZhK _ _
   · by_cases h3:b<161
     · simp only [if_neg h1,if_neg h2,if_pos h3];exact ZhK _ _
     · simp only [if_neg h1,if_neg h2,if_neg h3];exact row_ex _ _
theorem Znb {lead b p q:Int} (h1:Z2 lead b p)(h2:Z2 lead b q):p=q:=by
 unfold Z2 at h1 h2;by_cases e1:ZW b<0∨lead<129∨254<lead
 · rw [if_pos e1] at h1 h2;omega
 · by_cases e2:lead<161
   · rw [if_neg e1,if_pos e2] at h1 h2;exact ZhL h1 h2
   · by_cases e3:b<161
     · rw [if_neg e1,if_neg e2,if_pos e3] at h1 h2;exact ZhL h1 h2
     · rw [if_neg e1,if_neg e2,if_neg e3] at h1 h2;exact Ztl h1 h2
theorem Znm {n:Nat} {b:Bool} {q:Int} (hn:n<11172)(hb:Zn n=b)(h:ZbG (cnt b n) b q):q=44032+n:=by
 rcases h with⟨h0,_⟩|⟨_,h⟩
 · omega
 · rw [Int.toNat_natCast] at h;subst hb;exact Zr0 hn h
theorem ZqR {n:Nat} {q:Int} (hn:n<11172)(h:Z2 (ZaA (44032+n) / 256) (ZaA (44032+n) % 256) q):q=44032+n:=by
 cases hi:Zn n
 · have hk:=Zcb hn hi;rw [Zer] at hk;rw [Zg3 hn hi] at h;refine Znm hn hi ?_;generalize cnt false n=k at*;unfold exC at h;by_cases h5:(k:Int)<5696
   · rw [if_pos h5] at h;obtain⟨s1,s2,s3,_⟩:=Zf6 (n:=(k:Int) % 178) (by omega);generalize Zca ((k:Int) % 178)=s at*;rw [show((129+(k:Int) / 178)*256+s) / 256=129+(k:Int) / 178 by omega,show((129+(k:Int) / 178)*256+s) % 256=s by omega] at h;unfold Z2 at h;rw [s1,if_neg (by omega),if_pos (by omega),show(129+(k:Int) / 178 - 129)*178+(k:Int) % 178=k by omega] at h;exact h
   · rw [if_neg h5] at h;obtain⟨s1,s2,s3,s4⟩:=Zf6 (n:=((k:Int) - 5696) % 84) (by omega);have s5:=s4 (by omega);generalize Zca (((k:Int) - 5696) % 84)=s at*;rw [show((161+((k:Int) - 5696) / 84)*256+s) / 256=161+((k:Int) - 5696) / 84 by omega,show((161+((k:Int) - 5696) / 84)*256+s) % 256=s by omega] at h;unfold Z2 at h;rw [s1,if_neg (by omega),if_neg (by omega),if_pos s5,show 5696+(161+((k:Int) - 5696) / 84 - 161)*84+((k:Int) - 5696) % 84=k by omega] at h;exact h
 · have hk:=Zcb hn hi;rw [Zeq] at hk;rw [Zg4 hn hi] at h;refine Znm hn hi ?_;generalize cnt true n=k at*;unfold inC at h;rw [show((161+((k:Int)+1410) / 94)*256+(161+((k:Int)+1410) % 94)) / 256=161+((k:Int)+1410) / 94 by omega,show((161+((k:Int)+1410) / 94)*256+(161+((k:Int)+1410) % 94)) % 256=161+((k:Int)+1410) % 94 by omega] at h;have hs:¬ZW (161+((k:Int)+1410) % 94)<0:=by
    unfold ZW;rw [if_neg (by omega),if_neg (by omega),if_pos (by omega)];omega
   unfold Z2 at h;rw [if_neg (by omega),if_neg (by omega),if_neg (by omega)] at h;unfold Za9 at h;rw [if_neg (by omega),if_pos (by omega),show(161+((k:Int)+1410) / 94 - 176)*94+(161+((k:Int)+1410) % 94) - 161=k by omega] at h;exact h
theorem ZqS {n:Nat} (hn:n<11172):0≤ZaA (44032+n)∧ZaA (44032+n)≤65535:=by
 cases hi:Zn n
 · have hk:=Zcb hn hi;rw [Zer] at hk;rw [Zg3 hn hi];unfold exC;have h1:=Zf6 (n:=(cnt false n:Int) % 178) (by omega);have h2:=Zf6 (n:=((cnt false n:Int) - 5696) % 84) (by omega);split<;>omega
 · have hk:=Zcb hn hi;rw [Zeq] at hk;rw [Zg4 hn hi];unfold inC;omega
theorem ZpL {lead b p:Int} (h:Z2 lead b p)(hl:0≤lead∧lead≤255)(hb:0≤b∧b≤255)(w:World)(hD:DB w):
 Calls Tryz.prog 305 #[.int .u8 lead,.int .u8 b] w fun e w'=>e= .returned (.tuple #[.int .i32 p,.bool (p !=0)])∧Below w.heap.size w w':=
 (ZpK lead b hl hb w hD).mono fun e w' ⟨q,h1,h2,h3⟩=>by
  rw [Znb h h2];exact⟨h1,h3⟩
theorem Zlp:Zn 11171=false:=by decide+kernel
theorem ZqN:cnt false 11171=8821:=by
 have h:cnt false 11172=cnt false 11171+(if Zn 11171=false then 1 else 0):=rfl;rw [Zer,Zlp] at h;simp at h;omega
end Go.Proofs.YtlfinljfghhpdaaGreatDoor
namespace Go.Proofs.YtlfinljfghhpdaaGreatDoor
open Go
abbrev ZaO:=List Int⊕Nat
def Zam (p:List Int):ZaO→ZaO
 | .inl l=> .inl (p++l)
 | .inr n=> .inr n
theorem Zku (r:ZaO):Zam [] r=r:=by cases r<;>rfl
theorem Zg9 (a b:List Int)(r:ZaO):Zam a (Zam b r)=Zam (a++b) r:=by cases r<;>simp [Zam]
def Zk (f:UInt8→UInt8→List Int):List UInt8→Nat→ZaO
 |[],_=> .inl []
 |[a],i=>if a.toNat<128 then .inl [(a.toNat:Int)] else .inr i
 |a::b::q,i=>if a.toNat<128 then Zam [(a.toNat:Int)] (Zk f (b::q) (i+1)) else if f a b=[] then .inr i else Zam (f a b) (Zk f q (i+2))
section
variable (f:UInt8→UInt8→List Int)
theorem ZqY (l:List UInt8)(k:Nat)(h:k<l.length)(h1:l[k].toNat<128):Zk f (l.drop k) k=Zam [(l[k].toNat:Int)] (Zk f (l.drop (k+1)) (k+1)):=by
 rw [List.drop_eq_getElem_cons h];cases hq:l.drop (k+1) with
 |nil=>simp [Zk,h1,Zam]
 |cons b q=>simp [Zk,h1]
theorem Zq0 (l:List UInt8)(k:Nat)(h:k<l.length)(h1:¬l[k].toNat<128)(h2:l.length=k+1):Zk f (l.drop k) k= .inr k:=by
 rw [List.drop_eq_getElem_cons h,List.drop_of_length_le (by omega),Zk,if_neg h1]
theorem ZqZ (l:List UInt8)(k:Nat)(h:k+1<l.length)(h1:¬l[k].toNat<128)(h2:f l[k] l[k+1]=[]):Zk f (l.drop k) k= .inr k:=by
 rw [List.drop_eq_getElem_cons (by omega),List.drop_eq_getElem_cons h,Zk,if_neg h1,if_pos h2]
theorem Zq1 (l:List UInt8)(k:Nat)(h:k+1<l.length)(h1:¬l[k].toNat<128)(h2:f l[k] l[k+1]≠[]):Zk f (l.drop k) k=Zam (f l[k] l[k+1]) (Zk f (l.drop (k+2)) (k+2)):=by
 rw [List.drop_eq_getElem_cons (by omega),List.drop_eq_getElem_cons h,Zk,if_neg h1,if_neg h2]
theorem ZqX (l:List UInt8)(k:Nat)(h:l.length≤k):Zk f (l.drop k) k= .inl []:=by
 rw [List.drop_of_length_le h,Zk]
theorem Zhb (hf:∀a b,∀p∈f a b,Ze p=true):∀(l:List UInt8) (i:Nat) (ps:List Int),Zk f l i= .inl ps→∀p∈ps,Ze p=true
 |[],_,ps,h,p,hp=>by rw [Zk] at h;injection h with h;subst h;simp at hp
 |[a],i,ps,h,p,hp=>by
  rw [Zk] at h;split at h
  · injection h with h;subst h;simp at hp;subst hp;rw [Z1];omega
  · cases h
 |a::b::q,i,ps,h,p,hp=>by
  rw [Zk] at h;split at h
  · have ih:=Zhb hf (b::q) (i+1);generalize Zk f (b::q) (i+1)=r at*;cases r with
    |inr n=>cases h
    |inl qs=>
     injection h with h;subst h
     simp only [List.cons_append,List.nil_append,List.mem_cons] at hp;rcases hp with rfl|hp
     · rw [Z1];omega
     · exact ih qs rfl p hp
  · split at h
    · cases h
    · have ih:=Zhb hf q (i+2);generalize Zk f q (i+2)=r at*;cases r with
      |inr n=>cases h
      |inl qs=>
       injection h with h;subst h
       rcases List.mem_append.1 hp with hp|hp
       · exact hf a b p hp
       · exact ih qs rfl p hp
end
def utfF:Nat→List UInt8→Nat→ZaO
 |0,_,_=> .inl []
 |n+1,l,i=>if l=[] then .inl [] else if ZaF (Zu l) then .inr i else Zam [((Zu l).1:Int)] (utfF n (l.drop (Zu l).2) (i+(Zu l).2))
def ZcL (l:List UInt8):ZaO:=utfF l.length l 0
theorem ZiK:∀(n:Nat) (ps:List Int) (r:List UInt8) (i:Nat),(Zb ps++r).length≤n→(∀p∈ps,Ze p=true)→(r=[]∨ZaF (Zu r))→utfF n (Zb ps++r) i=if r=[] then .inl ps else .inr (i+(Zb ps).length)
 |0,ps,r,i,h,_,_=>by
  have h0:Zb ps++r=[]:=List.eq_nil_of_length_eq_zero (by omega);obtain⟨h1,h2⟩:=List.append_eq_nil_iff.1 h0;subst h2;have:ps=[]:=by cases ps with|nil=>rfl|cons p ps=>rw [ZaG] at h1;exact absurd (List.append_eq_nil_iff.1 h1).1 (Zhh p)
  subst this;rfl
 |n+1,[],r,i,h,_,hr=>by
  rw [ZbE,List.nil_append,utfF];by_cases h0:r=[]
  · rw [if_pos h0,if_pos h0]
  · rw [if_neg h0,if_neg h0,if_pos (hr.resolve_left h0)];rfl
 |n+1,p::ps,r,i,h,hp,hr=>by
  have sp:=hp p (List.mem_cons_self ..);have hl:=Zbx p;rw [ZaG,List.append_assoc] at h⊢;rw [utfF,if_neg (fun e=>Zhh p (List.append_eq_nil_iff.1 e).1),if_neg (ZfQ sp _),ZdR sp];simp only;rw [List.drop_left,ZiK n ps r _ (by rw [List.length_append] at h;omega) (fun x hx=>hp x (List.mem_cons_of_mem _ hx)) hr];have e:((p.toNat:Nat):Int)=p:=by rw [Z1] at sp;omega
  rw [e];split
  · rfl
  · simp only [Zam,List.length_append];congr 1;omega
theorem ZiL {l:List UInt8} {ps:List Int} (h:Good ⟨l.toArray⟩ ps):ZcL l= .inl ps:=by
 have e:l=Zb ps++[]:=by simpa using h.1
 unfold ZcL;rw [e,ZiK _ ps [] 0 (by simp) h.2 (.inl rfl),if_pos rfl]
theorem Znx {l:List UInt8} {n:Nat} (h:Zbr ⟨l.toArray⟩ n):ZcL l= .inr n:=by
 obtain⟨ps,r,h1,h2,h3,h4,h5⟩:=h;have e:l=Zb ps++r:=by simpa using h1
 unfold ZcL;rw [e,ZiK _ ps r 0 (by simp) h2 (.inr h5),if_neg h4,h3,Nat.zero_add]
theorem Zc9 (l:List UInt8):(∃ps,Good ⟨l.toArray⟩ ps∧ZcL l= .inl ps)∨∃n,Zbr ⟨l.toArray⟩ n∧ZcL l= .inr n:=by
 rcases ZrJ ⟨l.toArray⟩ with⟨ps,h⟩|⟨n,h⟩
 · exact .inl ⟨ps,h,ZiL h⟩
 · exact .inr ⟨n,h,Znx h⟩
def ZeT (big:Bool):Nat→List UInt8→Nat→ZaO
 |0,_,_=> .inl []
 |n+1,l,i=>if l=[] then .inl [] else if(Zp big l).2=0 then .inr i else Zam [(Zp big l).1] (ZeT big n (l.drop (Zp big l).2) (i+(Zp big l).2))
def Zco (big:Bool)(l:List UInt8):ZaO:=ZeT big l.length l 0
theorem ZiJ (big:Bool):∀(n:Nat) (ps:List Int) (r:List UInt8) (i:Nat),(ZX big ps++r).length≤n→(∀p∈ps,Ze p=true)→(r=[]∨(Zp big r).2=0)→ZeT big n (ZX big ps++r) i=if r=[] then .inl ps else .inr (i+(ZX big ps).length)
 |0,ps,r,i,h,_,_=>by
  have h0:ZX big ps++r=[]:=List.eq_nil_of_length_eq_zero (by omega);obtain⟨h1,h2⟩:=List.append_eq_nil_iff.1 h0;subst h2;have:ps=[]:=by cases ps with|nil=>rfl|cons p ps=>rw [Zeh] at h1;exact absurd (List.append_eq_nil_iff.1 h1).1 (ZnD big p)
  subst this;rfl
 |n+1,[],r,i,h,_,hr=>by
  rw [Zei,List.nil_append,ZeT];by_cases h0:r=[]
  · rw [if_pos h0,if_pos h0]
  · rw [if_neg h0,if_neg h0,if_pos (hr.resolve_left h0)];rfl
 |n+1,p::ps,r,i,h,hp,hr=>by
  have sp:=hp p (List.mem_cons_self ..);have hl:=ZeW big p;rw [Zeh,List.append_assoc] at h⊢;rw [ZeT,if_neg (fun e=>ZnD big p (List.append_eq_nil_iff.1 e).1),ZnI big sp,if_neg (by simp only;omega)];simp only;rw [List.drop_left,ZiJ big n ps r _ (by rw [List.length_append] at h;omega) (fun x hx=>hp x (List.mem_cons_of_mem _ hx)) hr];split
  · rfl
  · simp only [Zam,List.length_append];congr 1;omega
theorem ZuN {big:Bool} {l:List UInt8} {ps:List Int} (h:Zfh big ⟨l.toArray⟩ ps):Zco big l= .inl ps:=by
 have e:l=ZX big ps++[]:=by simpa using h.1
 unfold Zco;rw [e,ZiJ big _ ps [] 0 (by simp) h.2 (.inl rfl),if_pos rfl]
theorem ZuM {big:Bool} {l:List UInt8} {n:Nat} (h:Zfg big ⟨l.toArray⟩ n):Zco big l= .inr n:=by
 obtain⟨ps,r,⟨h1,h2⟩,h3,h4,h5⟩:=h;have e:l=ZX big ps++r:=by simpa using h1
 unfold Zco;rw [e,ZiJ big _ ps r 0 (by simp) h2 (.inr h5),if_neg h4,h3,Nat.zero_add]
theorem ZiI (big:Bool)(l:List UInt8):(∃ps,Zfh big ⟨l.toArray⟩ ps∧Zco big l= .inl ps)∨∃n,Zfg big ⟨l.toArray⟩ n∧Zco big l= .inr n:=by
 rcases ZuT big ⟨l.toArray⟩ with⟨ps,h⟩|⟨n,h⟩
 · exact .inl ⟨ps,h,ZuN h⟩
 · exact .inr ⟨n,h,ZuM h⟩
def ZeO (c:UInt8):UInt8:=if 65≤c.toNat∧c.toNat≤90 then c+32 else c
def Zb5 (l:List UInt8):List UInt8:=l.map ZeO
def Zas (c:Int):Int:=if c=1 then -1 else if 2≤c∧c≤20 then c - 2 else -2
def Zat (c:Int):Int:=if c=2 then -1 else if 3≤c∧c≤7 then c - 3 else if 10≤c∧c≤15 then c - 5 else if 18≤c∧c≤23 then c - 7 else if 26≤c∧c≤29 then c - 9 else -2
def Zac (c:Int):Int:=if 1≤c∧c≤17 then c - 1 else if 19≤c∧c≤29 then c - 2 else -2
def Zcy:List UInt8:=[65,66,100,67,102,103,68,69,70,106,107,108,109,110,111,112,71,72,73,115,74,75,76,77,78,79,80,81,82,83]
def Zab (k:Nat):Int:=if Lib.indexByte Zcy (UInt8.ofNat k)<0 then 0 else 12593+Lib.indexByte Zcy (UInt8.ofNat k)
def Zec (i m f:Int):Int:=44032+(i*21+m)*28+f
def Zaw (i m f:Int):Int:=
 if i≠ -1∧m≠ -1 then Zec i m f else if i= -1∧m≠ -1∧f=0 then 12623+m else if i≠ -1∧m= -1∧f=0 then Zab (65+i.toNat) else if i= -1∧m= -1∧f≠0 then Zab (97+f.toNat) else 0
def ZZ (n:Int):Int:=
 if n<32768∨Zas (n / 1024 % 32)= -2∨Zat (n / 32 % 32)= -2∨Zac (n % 32)= -2 then 0 else Zaw (Zas (n / 1024 % 32)) (Zat (n / 32 % 32)) (Zac (n % 32))
theorem Zlm (c:Int): -2≤Zas c∧Zas c≤18:=by unfold Zas;(repeat' split)<;>omega
theorem ZhT (c:Int): -2≤Zat c∧Zat c≤20:=by unfold Zat;(repeat' split)<;>omega
theorem Zhm (c:Int):Zac c= -2∨(0≤Zac c∧Zac c≤27):=by unfold Zac;(repeat' split)<;>omega
theorem Zkq (k:Nat)(hk:k<256):Zab k=0∨(12593≤Zab k∧Zab k≤12622):=by
 have h:(List.range 256).all (fun k=>decide (Zab k=0∨(12593≤Zab k∧Zab k≤12622)))=true:=by decide+kernel
 have:=List.all_eq_true.1 h k (List.mem_range.2 hk);simpa using this
theorem ZrY (n:Int):ZZ n=0∨(12593≤ZZ n∧ZZ n≤12643)∨(44032≤ZZ n∧ZZ n≤55203):=by
 have h1:=Zlm (n / 1024 % 32);have h2:=ZhT (n / 32 % 32);have h3:=Zhm (n % 32);unfold ZZ;generalize Zas (n / 1024 % 32)=i at*;generalize Zat (n / 32 % 32)=m at*;generalize Zac (n % 32)=f at*;by_cases hb:n<32768∨i= -2∨m= -2∨f= -2
 · rw [if_pos hb];exact .inl rfl
 · rw [if_neg hb];have hc1:=Zkq (65+i.toNat) (by omega);have hc2:=Zkq (97+f.toNat) (by omega);unfold Zaw Zec;generalize Zab (65+i.toNat)=x at*;generalize Zab (97+f.toNat)=y at*
   (repeat' split)<;>omega
theorem Zlr (n:Int)(h:ZZ n≠0):Ze (ZZ n)=true:=by
 have:=ZrY n;rw [Z1];omega
def Zz (b:Int):Int:=if 64≤b∧b≤126 then b - 64 else if 161≤b∧b≤254 then b - 161+63 else -1
def Z8 (c:Int):Int:=if c<63 then 64+c else 161+c - 63
def B0:List Int:=[
 256,193,461,192,274,201,282,200,332,211,465,210]
def B1:List Int:=[
 7870]
def B2:List Int:=[
 7872,202,257,225,462,224,593,275,233,283,232,299,237,464,236,333]
def B3:List Int:=[
 243,466,242,363,250,468,249,470,472,474]
def B4:List Int:=[
 476,252]
def B5:List Int:=[
 7871]
def B6:List Int:=[
 7873,234,609]
def B7:List Int:=[
 12288,65292,12289,12290,65294,8226,65307,65306,65311,65281,65072,8230,8229,65104,65380,65106,183,65108,65109,65110,
 65111,65372,8211,65073,8212,65075,9588,65076,65103,65288,65289,65077,65078,65371,65373,65079,65080,12308,12309,65081,
 65082,12304,12305,65083,65084,12298,12299,65085,65086,12296,12297,65087,65088,12300,12301,65089,65090,12302,12303,65091,
 65092,65113,65114,65115,65116,65117,65118,8216,8217,8220,8221,12317,12318,8245,8242,65283,65286,65290,8251,167,
 12291,9675,9679,9651,9650,9678,9734,9733,9671,9670,9633,9632,9661,9660,12963,8453,8254,65507,65343,717,
 65097,65098,65101,65102,65099,65100,65119,65120,65121,65291,65293,215,247,177,8730,65308,65310,65309,8806,8807,
 8800,8734,8786,8801,65122,65123,65124,65125,65126,8764,8745,8746,8869,8736,8735,8895,13266,13265,8747,8750,
 8757,8756,9792,9794,9793,9737,8593,8595,8592,8594,8598,8599,8601,8600,8741,8739,65295]
def B8:List Int:=[
 65367,65368,65369,65370,913,914,915,916,917,918,919,920,921,922,923,924,925,926,927,928,
 929,931,932,933,934,935,936,937,945,946,947,948,949,950,951,952,953,954,955,956,
 957,958,959,960,961,963,964,965,966,967,968,969,12549,12550,12551,12552,12553,12554,12555,12556,
 12557,12558,12559,12560,12561,12562,12563,12564,12565,12566,12567,12568,12569,12570,12571,12572,12573,12574,12575,12576,
 12577,12578,12579,12580,12581,12582,12583,12584,12585,729,713,714,711,715]
def B9:List Int:=[
 19968,20057,19969,19971,20035,20061,20102,20108,20154,20799,20837,20843,20960,20992,20993,21147,21269,21313,21340,21448,
 19977,19979,19976,19978,20011,20024,20961,20037,20040,20063,20062,20110,20129,20800,20995,21242,21315,21449,21475,22303,
 22763,22805,22823,22899,23376,23377,23379,23544,23567,23586,23608,23665,24029,24037,24049,24050,24051,24062,24178,24318,
 24331,24339,25165,19985,19984,19981,20013,20016,20025,20043,23609,20104,20113,20117,20114,20116,20130,20161,20160,20163,
 20166,20167,20173,20170,20171,20164,20803,20801,20839,20845,20846,20844,20887,20982,20998,20999,21000,21243,21246,21247,
 21270,21305,21320,21319,21317,21342,21380,21451,21450,21453,22764,22825,22827,22826,22829,23380,23569,23588,23610,23663,
 24052,24187,24319,24340,24341,24515,25096,25142,25163,25166,25903,25991,26007,26020,26041,26085,26352,26376,26408,27424,
 27490,27513,27595,27604,27611,27663,27700,28779,29226,29238,29243,29255,29273,29275,29356,29579,19993]
def B10:List Int:=[
 19990,19989,19988,19992,20027,20045,20047,20046,20197,20184,20180,20181,20182,20183,20195,20196,20185,20190,20805,20804,
 20873,20874,20908,20985,20986,20984,21002,21152,21151,21253,21254,21271,21277,20191,21322,21321,21345,21344,21359,21358,
 21435,21487,21476,21491,21484,21486,21481,21480,21500,21496,21493,21483,21478,21482,21490,21489,21488,21477,21485,21499,
 22235,22234,22806,22830,22833,22900,22902,23381,23427,23612,24040,24039,24038,24066,24067,24179,24188,24321,24344,24343,
 24517,25098,25171,25172,25170,25169,26021,26086,26414,26412,26410,26411,26413,27491,27597,27665,27664,27704,27713,27712,
 27710,29359,29572,29577,29916,29926,29976,29983,29992,29993,30000,30001,30002,30003,30091,30333,30382,30399,30446,30683,
 30690,30707,31034,31166,31348,31435,19998,19999,20050,20051,20073,20121,20132,20134,20133,20223,20233,20249,20234,20245,
 20237,20240,20241,20239,20210,20214,20219,20208,20211,20221,20225,20235,20809,20807,20806,20808,20840]
def SP:List (Int×Int×List Int):=[(136,86,B0),(136,99,B1),(136,101,B2),(136,117,B3),(136,161,B4),(136,164,B5),(136,166,B6),(161,64,B7),(163,64,B8),(164,64,B9),(165,64,B10)]
def R136:List Int:=List.replicate 22 63++B0++List.replicate 1 63++B1++List.replicate 1 63++B2++B3++B4++List.replicate 1 63++B5++List.replicate 1 63++B6
def R161:List Int:=B7
def R163:List Int:=B8
def R164:List Int:=B9
def R165:List Int:=B10
def Zbo (c:UInt8):Nat:=if c.toNat<58 then c.toNat - 48 else c.toNat - 55
def ZdT (c:UInt8):Bool:=Nat.ble 48 c.toNat&&Nat.ble c.toNat 57||Nat.ble 65 c.toNat&&Nat.ble c.toNat 70
def Zcg:List UInt8→List Int→Bool
 |a::b::c::d::e::r,p::ps=>ZdT a&&ZdT b&&ZdT c&&ZdT d&&Nat.beq e.toNat 32&&decide (p=(Zbo a*4096+Zbo b*256+Zbo c*16+Zbo d:Nat))&&Zcg r ps
 |[],[]=>true
 |_,_=>false
theorem Zfo {c:UInt8} (h:ZdT c=true):Zbo c<16∧Zce (Zbo c:Int)=c:=by
 have h':(48≤c.toNat∧c.toNat≤57)∨(65≤c.toNat∧c.toNat≤70):=by simpa [ZdT,Nat.ble_eq] using h
 have hb:=c.toNat_lt;rcases h' with h'|h'
 · have e:Zbo c=c.toNat - 48:=by unfold Zbo;rw [if_pos (by omega)]
   refine⟨by omega,?_⟩;unfold Zce;rw [if_pos (by omega),e];have:(48+((c.toNat - 48:Nat):Int)).toNat=c.toNat:=by omega
   rw [this];simp
 · have e:Zbo c=c.toNat - 55:=by unfold Zbo;rw [if_neg (by omega)]
   refine⟨by omega,?_⟩;unfold Zce;rw [if_neg (by omega),e];have:(55+((c.toNat - 55:Nat):Int)).toNat=c.toNat:=by omega
   rw [this];simp
theorem Zli:∀(l:List UInt8) (ps:List Int),Zcg l ps=true→l=Zcf ps
 |a::b::c::d::e::r,p::ps,h=>by
  simp only [Zcg,Bool.and_eq_true,decide_eq_true_eq] at h;obtain⟨⟨⟨⟨⟨⟨h1,h2⟩,h3⟩,h4⟩,h5⟩,h6⟩,h7⟩:=h;have ih:=Zli r ps h7;obtain⟨a1,a2⟩:=Zfo h1;obtain⟨b1,b2⟩:=Zfo h2;obtain⟨c1,c2⟩:=Zfo h3;obtain⟨d1,d2⟩:=Zfo h4;have e5:e=32:=by
   have:=Nat.eq_of_beq_eq_true h5;exact UInt8.toNat_inj.1 this
  have f1:p / 4096=(Zbo a:Int):=by omega
  have f2:p / 256 % 16=(Zbo b:Int):=by omega
  have f3:p / 16 % 16=(Zbo c:Int):=by omega
  have f4:p % 16=(Zbo d:Int):=by omega
  rw [Zhy,Zbv,f1,f2,f3,f4,a2,b2,c2,d2,←ih,e5];rfl
 |[],[],_=>rfl
 |[],_::_,h=>by simp [Zcg] at h
 |_::_,[],h=>by simp [Zcg] at h
 |[_],_::_,h=>by simp [Zcg] at h
 |[_,_],_::_,h=>by simp [Zcg] at h
 |[_,_,_],_::_,h=>by simp [Zcg] at h
 |[_,_,_,_],_::_,h=>by simp [Zcg] at h
def ZcU (lead:Int):Int→List Int→List (Int×Int)
 |_,[]=>[]
 |c,p::ps=>(lead*256+Z8 c,p)::ZcU lead (c+1) ps
def Zdm:List (Int×Int×List Int)→List (Int×Int)
 |[]=>[]
 |t::l=>ZcU t.1 (Zz t.2.1) t.2.2++Zdm l
def RL:List (Int×Int×List Int):=[(136,64,R136),(161,64,R161),(163,64,R163),(164,64,R164),(165,64,R165)]
def Zbg:List (Int×Int)→Int→Int
 |[],_=> -1
 |t::l,p=>if t.2=p then t.1 else Zbg l p
def ZT:List (Int×Int×List Int)→Int→Int→Int
 |[],_,_=>0
 |t::l,lead,c=>if t.1=lead∧0≤c - Zz t.2.1∧c - Zz t.2.1<t.2.2.length then t.2.2.getD (c - Zz t.2.1).toNat 0 else ZT l lead c
def Zbc:List (Int×Int×List Int)→Int→Int
 |[],_=> -1
 |t::l,p=>if fnd t.2.2 p<0 then Zbc l p else t.1*256+Z8 (Zz t.2.1+fnd t.2.2 p)
def Zav (lead:Int):List Int:=if lead=136 then R136 else if lead=161 then R161 else if lead=163 then R163 else if lead=164 then R164 else if lead=165 then R165 else []
def dq (p:Int):Int:=if p=63 then 0 else p
def rOne (lead c:Int):Int:=if c<0 then 0 else dq ((Zav lead).getD c.toNat 0)
theorem Zsh (lead c:Int)(ps:List Int)(r:List (Int×Int))(p:Int):
 Zbg (ZcU lead c ps++r) p=if fnd ps p<0 then Zbg r p else lead*256+Z8 (c+fnd ps p):=by
 induction ps generalizing c with
 |nil=>simp [ZcU,fnd]
 |cons q ps ih=>
  have hg:=ZkZ ps p;have ih':=ih (c+1);by_cases h:q=p
  · have e:fnd (q::ps) p=0:=by simp [fnd,h]
    rw [e];simp [ZcU,Zbg,h]
  · have e0:Zbg (ZcU lead c (q::ps)++r) p=Zbg (ZcU lead (c+1) ps++r) p:=by simp [ZcU,Zbg,h]
    rw [e0,ih'];by_cases h2:fnd ps p= -1
    · have e:fnd (q::ps) p= -1:=by simp [fnd,h,h2]
      rw [e,h2];simp
    · have e:fnd (q::ps) p=fnd ps p+1:=by simp [fnd,h,h2]
      rw [e];have h3:¬fnd ps p<0:=by omega
      have h4:¬(fnd ps p+1<0):=by omega
      rw [if_neg h3,if_neg h4];have e:c+1+fnd ps p=c+(fnd ps p+1):=by omega
      rw [e]
theorem Zfv (l:List (Int×Int×List Int))(p:Int):Zbc l p=Zbg (Zdm l) p:=by
 induction l with
 |nil=>rfl
 |cons t l ih=>simp only [Zbc,Zdm,Zsh,ih]
theorem Zsi (l:List (Int×Int))(p:Int)(h:p≠63):Zbg (l.filter fun t=>decide (t.2≠63)) p=Zbg l p:=by
 induction l with
 |nil=>rfl
 |cons t l ih=>
  by_cases ht:t.2=63
  · rw [List.filter_cons_of_neg (by simp [ht]),ih];have h':¬t.2=p:=by omega
    simp only [Zbg];rw [if_neg h']
  · rw [List.filter_cons_of_pos (by simp [ht])];simp only [Zbg];rw [ih]
theorem Zfy:Zdm SP=(Zdm RL).filter fun t=>decide (t.2≠63):=by decide+kernel
theorem Zrt {p:Int} (h:p≠63):Zbc SP p=Zbc RL p:=by
 rw [Zfv,Zfv,Zfy,Zsi _ _ h]
theorem Zrr:Zbc SP 63= -1:=by rw [Zfv];decide+kernel
def Zc2 (lead:Int):Bool:=(List.range 157).all fun c=>decide (ZT SP lead c=rOne lead c)&&(decide (ZT SP lead c=0)||(decide (Zbg (Zdm SP) (ZT SP lead c)=lead*256+Z8 c)))
theorem ZsI:Zc2 136=true∧Zc2 161=true∧Zc2 163=true∧Zc2 164=true∧Zc2 165=true:=by decide+kernel
theorem ZsH {lead:Int} (h:Zc2 lead=true){c:Int} (h0:0≤c)(h1:c<157):
 ZT SP lead c=rOne lead c∧(ZT SP lead c=0∨Zbg (Zdm SP) (ZT SP lead c)=lead*256+Z8 c):=by
 unfold Zc2 at h;have:=List.all_eq_true.1 h c.toNat (List.mem_range.2 (by omega));have e:((c.toNat:Nat):Int)=c:=by omega
 rw [e] at this;simpa using this
theorem ZsF {l:List (Int×Int×List Int)} {lead:Int} (h:∀t∈l,t.1≠lead)(c:Int):ZT l lead c=0:=by
 induction l with
 |nil=>rfl
 |cons t l ih=>
  have h1:=h t (by simp);simp only [ZT];rw [if_neg (by intro hh;exact h1 hh.1)];exact ih fun x hx=>h x (by simp [hx])
theorem ZgW (b:Int): -1≤Zz b∧Zz b<157:=by unfold Zz;repeat' split;all_goals omega
theorem ZtJ {b:Int} (h:0≤Zz b):Z8 (Zz b)=b:=by
 unfold Zz at*;unfold Z8;repeat' split at*;all_goals omega
theorem Zr5 {lead:Int} (h:∃t∈SP,t.1=lead):lead=136∨lead=161∨lead=163∨lead=164∨lead=165:=by
 obtain⟨t,ht,rfl⟩:=h;simp [SP] at ht;rcases ht with rfl|rfl|rfl|rfl|rfl|rfl|rfl|rfl|rfl|rfl|rfl<;>simp
theorem Zl5 (lead b:Int)(h:0≤Zz b):
 ZT SP lead (Zz b)=rOne lead (Zz b)∧(ZT SP lead (Zz b)=0∨Zbc SP (ZT SP lead (Zz b))=lead*256+b):=by
 rw [Zfv];have hc:=ZgW b;by_cases hl:lead=136∨lead=161∨lead=163∨lead=164∨lead=165
 · obtain⟨a1,a2,a3,a4,a5⟩:=ZsI;have hk:Zc2 lead=true:=by
    rcases hl with rfl|rfl|rfl|rfl|rfl
    · exact a1
    · exact a2
    · exact a3
    · exact a4
    · exact a5
   have:=ZsH hk h hc.2;rw [ZtJ h] at this;exact this
 · have h0:ZT SP lead (Zz b)=0:=ZsF (fun t ht e=>hl (Zr5 ⟨t,ht,e⟩)) _;refine⟨?_,Or.inl h0⟩;rw [h0];simp only [not_or] at hl;obtain⟨b1,b2,b3,b4,b5⟩:=hl;unfold rOne Zav;simp [b1,b2,b3,b4,b5,dq]
theorem ZtV:SP.all (fun t=>t.2.2.all fun p=>decide (128<p∧p≤65535∧(p<55296∨57343<p)))=true:=by decide+kernel
theorem Zir {t:Int×Int×List Int} (ht:t∈SP):∀p∈t.2.2,128<p∧p≤65535∧(p<55296∨57343<p):=by
 intro p hp;have:=List.all_eq_true.1 (List.all_eq_true.1 ZtV t ht) p hp;simpa using this
theorem Zla {l:List Int} {k:Nat} (h:k<l.length):l.getD k 0∈l:=by
 rw [List.getD_eq_getElem?_getD,List.getElem?_eq_getElem h];simp
theorem ZsG {l:List (Int×Int×List Int)} (hl:∀t∈l,t∈SP)(lead c:Int):
 ZT l lead c=0∨(128<ZT l lead c∧ZT l lead c≤65535∧(ZT l lead c<55296∨57343<ZT l lead c)):=by
 induction l with
 |nil=>exact Or.inl rfl
 |cons t l ih=>
  simp only [ZT];split
  · rename_i hc
    have hm:t.2.2.getD (c - Zz t.2.1).toNat 0∈t.2.2:=Zla (by omega);exact Or.inr (Zir (hl t (by simp)) _ hm)
  · exact ih fun x hx=>hl x (by simp [hx])
end Go.Proofs.YtlfinljfghhpdaaGreatDoor
namespace Go.Proofs.YtlfinljfghhpdaaGreatDoor
open Go Go.RowKit
theorem ZhA {x y:Int} (hy₀:0≤y)(hy:y<16)(hx₀:0≤x)(hx:x<134217728):bits .or .i32 (x*16) y=x*16+y:=
 bits_join .i32 31 (by decide) (fun n h0 h1=>by simp [IntKind.wrap,IntKind.bits,IntKind.signed];omega) 4 (x*16) y (by omega) (by omega) (by omega) hy₀ hy (by omega)
theorem Zgq (b:Int)(hb: -1000≤b∧b≤1000)(w:World):
 Calls Tryz.prog 376 #[.int .i64 b] w fun e w'=>e= .returned (.int .i64 (Zz b))∧w=w':=by
 have h0:=hb.1;have h1:=hb.2;go_enter Tryz.func376,Tryz.ntmps376
 go_wp2
 all_goals go_ret
 all_goals refine⟨Za4 ?_,rfl⟩
 all_goals unfold Zz
 all_goals repeat' split
 all_goals omega
def Hex (s:ByteArray)(ps:List Int):Prop:=s.data.toList=Zcf ps∧ZjS ps
theorem Hex.size {s:ByteArray} {ps:List Int} (h:Hex s ps):s.size=5*ps.length:=by
 rw [←Zlg,←h.1];simp
theorem Hex.digit {s:ByteArray} {ps:List Int} (h:Hex s ps){k j m:Nat} (hm:m=5*k)(hk:k<ps.length)(hj:j<5)(hi:m+j<s.size):(Zbv (ps.getD k 0))[j]? =some s[m+j]:=by
 subst hm;rw [←Zlf ps k j hk hj,←h.1];have hl:5*k+j<s.data.toList.length:=by simpa using hi
 rw [List.getElem?_eq_getElem hl];rfl
theorem Ze2 (d:Int)(c:UInt8)(hd:0≤d∧d<16)(hc:c=Zce d)(w:World):
 Calls Tryz.prog 290 #[.string ⟨#[48,49,50,51,52,53,54,55,56,57,65,66,67,68,69,70]⟩,.int .u8 (c.toNat:Int)] w fun e w'=>e= .returned (.int .i64 d)∧w=w':=by
 refine(Tryz.strings_IndexByte _ _ w).mono ?_;rintro e w' ⟨rfl,rfl⟩;refine⟨Za4 ?_,rfl⟩;have e1:((c.toNat:Int)).toNat.toUInt8=c:=Z6 rfl;rw [e1,hc];exact Zle hd.1 hd.2
end Go.Proofs.YtlfinljfghhpdaaGreatDoor
