/- Lemmas for a statement on the tops; conditions: as each says. -/
import Derived.Test.YtnbkfkbcpfkddaaGreatDoorM36
set_option linter.unusedVariables false
set_option linter.unusedSimpArgs false
set_option maxRecDepth 100000
set_option maxHeartbeats 1000000
namespace Go.Proofs.YtnbkfkbcpfkddaaGreatDoor
open Go Go.RowKit
def Zcu (w:World)(r:Except Nat (List (List UInt8)))(e:Ending)(w':World):Prop:=Below w.heap.size w w'∧match r with
 | .error k=>e= .returned (.tuple #[.slice none 0 0,.agg #[.int .i64 1,.int .i64 (k:Nat)]])
 | .ok ps=>∃v,e= .returned (.tuple #[v,.agg #[.int .i64 0,.int .i64 0]])∧Zg (fun y=>[sV y]) w.heap.size w' v ps
def JoRel (w:World)(l:List Pg)(v4 v5 o i:Value)(wr:World):Prop:=∃(k:Nat) (dn PL:List (List UInt8)) (op:Bool),k≤l.length∧i= .int .i64 k∧o= .bool op∧JoSt w wr v4 v5 dn PL∧
 dn.length≤255*k∧PL.length≤k∧PL.flatten.length≤65025*k∧ZI false [] 0 l=ZcE dn (ZI op PL.flatten k (l.drop k))
def JiRel (w:World)(G:Nat)(p:Pg)(op0:Bool)(dn0 PL0:List (List UInt8))(v4 v5 o a b i:Value)(wr:World):Prop:=∃(j f:Nat) (d PL:List (List UInt8)),j≤p.laces.length∧i= .int .i64 j∧b= .int .i64 (Zc (p.laces.take j):Nat)∧a= .int .i64 (f:Nat)∧
 f≤Zc (p.laces.take j)∧o= .bool (ZbZ op0 (p.laces.take j))∧JnSt w wr G p v4 v5 (dn0++d) PL∧d.length≤j∧(PL=PL0∨PL=[])∧
 ZE PL0.flatten (p.laces.take j) (p.body.take (Zc (p.laces.take j)))=(d,PL.flatten++(p.body.drop f).take (Zc (p.laces.take j) - f))
theorem ZiB (p:Pg):(Zab p).2=0:=by
 unfold Zab;split
 · rfl
 · split<;>rfl
theorem ZnM (b:List UInt8)(f n x:Nat)(h:f≤n):(b.drop f).take (n - f)++(b.drop n).take x=(b.drop f).take (n+x - f):=by
 rw [show n+x - f=(n - f)+x by omega,List.take_add,List.drop_drop,show f+(n - f)=n by omega]
theorem ZhM (A:Option Addr)(c:Nat)(l:List Pg)(hn:l.length≤60000)(hf:∀p∈l,PgFit p)(w:World)(h:RdN 6 pgL w w.heap.size A l):
 Calls Tryz.prog 112 #[.slice A l.length c] w (Zcu w (ZI false [] 0 l)):=by
 have HPe:Hid (∀(k:Nat) w',ZI false [] 0 l= .error k→Below w.heap.size w w'→Zcu w (ZI false [] 0 l) (.returned (.tuple #[.slice none 0 0,.agg #[.int .i64 1,.int .i64 (k:Nat)]])) w'):=Lib.hid fun k w' h hb=>by
  rw [h];exact⟨hb,rfl⟩
 have HPo:Hid (∀(ps:List (List UInt8)) v w',ZI false [] 0 l= .ok ps→Zg (fun y=>[sV y]) w.heap.size w' v ps→Below w.heap.size w w'→Zcu w (ZI false [] 0 l) (.returned (.tuple #[v,.agg #[.int .i64 0,.int .i64 0]])) w'):=Lib.hid fun ps v w' h hr hb=>by
  rw [h];exact⟨hb,v,rfl,hr⟩
 generalize Zcu w (ZI false [] 0 l)=P at*;have HR:=Lib.hid h;have HF:=Lib.hid hf;have S0:=Lib.hid (JoSt.mk0 w);clear h hf;go_enter Tryz.func112,Tryz.ntmps112
 go_wp2_with fail
 go_loopw [4,5,6,14] (fun v4 v5 o i wr=>JoRel w l v4 v5 o i wr) (fun _ _ _ i _=>l.length - (intOf i).toNat)
 case atStart=>exact⟨0,[],[],false,Nat.zero_le _,rfl,rfl,S0.out,Nat.zero_le _,Nat.zero_le _,Nat.zero_le _,by rw [Zoz];rfl⟩
 case round=>
  obtain⟨k,dn,PL,op,hk,rfl,rfl,hst,hdl,hpl,hpf,hsem⟩:=hrel;have ST:=Lib.hid hst;have HS:=Lib.hid hsem;have HL:=Lib.hid (And.intro hdl (And.intro hpl hpf));clear hst hsem hdl hpl hpf;obtain⟨A4,c4,hv4,hc4⟩:=ST.out.o4.len;obtain⟨A5,c5,hv5,hc5⟩:=ST.out.o5.len;subst hv4 hv5;by_cases hlt:k<l.length
  · obtain⟨p,hk1⟩:∃p,l[k]? =some p:=⟨_,List.getElem?_eq_getElem hlt⟩
    have hfit:=HF.out p (List.mem_of_getElem? hk1);have hdr:l.drop k=p::l.drop (k+1):=by
     rw [List.drop_eq_getElem_cons hlt];rw [List.getElem?_eq_getElem hlt] at hk1;rw [Option.some.inj hk1]
    have HD:=Lib.hid hdr;obtain⟨ad,rfl,hadb,y0,y1,y2,y3,y4,y5⟩:=(HR.out.below ST.out.low).page hk1;have hbl:ad.block<wr.heap.size:=Nat.lt_of_lt_of_le hadb ST.out.low.size;clear hk1 hdr;have hck:=fun w=>ZfI p hfit w;have hhs:=fun x1 x2 x3 w=>ZcV p.fl 1 1 rfl x1 x2 x3 w;have SN:=Lib.hid (ST.out.page p);obtain⟨⟨p0,p1,p2,p3,p4,p5⟩,⟨r0,r1⟩,rf,rl,gl⟩:=SN.out.cells;obtain⟨⟨a,b⟩,hab⟩:∃q,q=Zab p:=⟨_,rfl⟩
    rw [←hab] at hck;have hb0:b=0:=by have:=ZiB p;rw [←hab] at this;exact this
    subst hb0;unfold Zdv pgA at hck;unfold pgA at SN;by_cases ha:a=0
    · subst ha;have hcp:Zab p=(0,0):=hab.symm;have hbd:=fun w=>ZT 0 0 rfl w;by_cases hop:(p.fl&&&1==1)=op
      · have hjp:=Zox op PL.flatten k p (l.drop (k+1)) hcp hop;rw [←HD.out] at hjp;have HJ:=Lib.hid hjp;obtain⟨hl255,hbt⟩:=ZeA hcp;have hne:((p.fl&&&1==1) !=op)=false:=by rw [hop];simp
        have hsl:=Zm p.laces;have hsb:=Zm p.body;clear hjp hab hcp;go_wp2_with (first
         |(go_at_call 33;(with_reducible refine(hck _).mono ?_);rintro e w2 ⟨rfl,hb⟩;have S2:=Lib.hid (SN.out.below hb);clear hb)
         |(go_at_call 8;(with_reducible refine(hbd _).mono ?_);rintro e w3 ⟨rfl,hb⟩;have S3:=Lib.hid (S2.out.below hb);clear hb p0 p1 p2 p3 p4 p5 r0 r1 rf rl gl;obtain⟨⟨p0,p1,p2,p3,p4,p5⟩,⟨r0,r1⟩,rf,rl,gl⟩:=S3.out.cells)
         |(go_at_call 77;(with_reducible refine(hhs _ _ _ _).mono ?_);rintro e w4 ⟨rfl,hb⟩;have S4:=Lib.hid (S3.out.below hb);clear hb p0 p1 p2 p3 p4 p5 r0 r1 rf rl gl;obtain⟨⟨p0,p1,p2,p3,p4,p5⟩,⟨r0,r1⟩,rf,rl,gl⟩:=S4.out.cells))
        generalize hGG:wr.heap.size=G at*;clear hck hhs hbd hne p0 p1 p2 p3 p4 p5 r0 r1 rf rl gl;go_loopw [4,5,6,9,10,34] (fun v4 v5 o a b i wx=>JiRel w G p op dn PL v4 v5 o a b i wx) (fun _ _ _ _ _ i _=>p.laces.length - (intOf i).toNat)
        case atStart=>exact⟨0,0,[],PL,Nat.zero_le _,rfl,rfl,rfl,Nat.le_refl _,rfl,by rw [List.append_nil];exact S4.out,Nat.le_refl _,.inl rfl,by simp [ZE,Zc]⟩
        case round=>
         obtain⟨j,f,d,PL1,hj,rfl,rfl,rfl,hfle,rfl,hst,hdl1,hPL1,hcut⟩:=hrel;obtain⟨DN,hDN⟩:∃q,q=dn++d:=⟨_,rfl⟩
         rw [←hDN] at hst;have hDl:DN.length=dn.length+d.length:=by rw [hDN,List.length_append]
         have SI:=Lib.hid hst;have HDN:=Lib.hid hDN;have HDl:=Lib.hid hDl;clear hDN hDl;have HC:=Lib.hid hcut;have HP1:=Lib.hid hPL1;clear hst hcut hPL1 S4 SN S2 S3 ST hc4 hc5;obtain⟨A6,c6,hv6,hc6⟩:=SI.out.s.o4.len;obtain⟨A7,c7,hv7,hc7⟩:=SI.out.s.o5.len;subst hv6 hv7;obtain⟨⟨p0,p1,p2,p3,p4,p5⟩,⟨r0,r1⟩,rf,rl,gl⟩:=SI.out.cells;have hsz:=SI.out.s.size;have hll:=HL.out;by_cases hlj:j<p.laces.length
         · have hg:=Zbp p.laces j hlj;have hx:=p.laces[j].toNat_lt;have hcs:=ZnA PL.flatten p.laces p.body j hlj;have hto:=Zfo p.laces j hlj;have hle:=ZqW p.laces (j+1);have hlb:=ZbL p.laces;have hop1:=Zo8 op p.laces j hlj;have hq:=Zd9 p.laces[j] 255;rw [show(((255:UInt8).toNat:Nat):Int)=255 from rfl] at hq;rw [HC.out] at hcs;have hdt:=ZnM p.body f (Zc (p.laces.take j)) p.laces[j].toNat hfle;rw [hto] at hle;by_cases h255:p.laces[j]=255
           · rw [if_pos h255] at hcs;have hq1:((p.laces[j].toNat:Int)==255)=true:=by rw [h255];rfl
             have HCS:Hid (ZE PL.flatten (p.laces.take (j+1)) (p.body.take (Zc (p.laces.take (j+1))))=(d,PL1.flatten++(p.body.drop f).take (Zc (p.laces.take (j+1)) - f))):=Lib.hid (by rw [hcs,hto,←hdt];simp);have HTO:=Lib.hid hto;have HOP:Hid (ZbZ op (p.laces.take (j+1))=true):=Lib.hid (by rw [hop1,h255];rfl);clear hcs hto hop1 hq hdt h255;generalize hxx:p.laces[j]=x at*;generalize Zc (p.laces.take j)=n at*;clear hxx;go_wp2_with fail
             go_roundw
             case rel=>exact⟨j+1,f,d,PL1,by omega,by go_num,by rw [HTO.out];go_num,rfl,by rw [HTO.out];omega,by rw [HOP.out],by rw [←HDN.out];exact SI.out,by omega,HP1.out,HCS.out⟩
             case measure=>simp [intOf];omega
           · rw [if_neg h255] at hcs;have hxb:(p.laces[j]==255)=false:=by simpa using h255
             have hq1:((p.laces[j].toNat:Int)==255)=false:=by rw [hq,hxb]
             have hpk:(B p.body).extract f (Zc (p.laces.take j)+p.laces[j].toNat)=B ((p.body.drop f).take (Zc (p.laces.take j)+p.laces[j].toNat - f)):=Zbx _ _ _;rw [←hdt] at hpk;have HCS:Hid (ZE PL.flatten (p.laces.take (j+1)) (p.body.take (Zc (p.laces.take (j+1))))=(d++[PL1.flatten++((p.body.drop f).take (Zc (p.laces.take j) - f)++(p.body.drop (Zc (p.laces.take j))).take p.laces[j].toNat)],[])):=Lib.hid (by rw [hcs];simp);have HTO:=Lib.hid hto;have HOP:Hid (ZbZ op (p.laces.take (j+1))=false):=Lib.hid (by rw [hop1,hxb]);have hXl:((p.body.drop f).take (Zc (p.laces.take j) - f)++(p.body.drop (Zc (p.laces.take j))).take p.laces[j].toNat).length≤100000:=by
              rw [hdt];refine Nat.le_trans (List.length_take_le _ _) ?_;omega
             have hPf:PL1.flatten.length≤65025*60000∧PL1.length≤60000:=by
              rcases HP1.out with e|e
              · rw [e];omega
              · rw [e];simp
             have hPf1:=hPf.1;have hPf2:=hPf.2;have hny:Zc (p.laces.take j)+p.laces[j].toNat≤p.body.length:=by omega
             have hdn4:DN.length≤16777216:=by have:=HDl.out;omega
             clear hcs hto hop1 hq hdt h255 hxb hPf;generalize (p.body.drop f).take (Zc (p.laces.take j) - f)++(p.body.drop (Zc (p.laces.take j))).take p.laces[j].toNat=X at*;generalize hxx:p.laces[j]=x at*;generalize Zc (p.laces.take j)=n at*;clear hxx;go_wp2_with (first
              |(at_builtin;refine ZdE rfl _ _ rfl (w.heap.size+1) (.slice A7 PL1.length c7) PL1 rfl wr X SI.out.s.o5 hsz (by omega) rfl ?_;intro v6 w6 HO6 hb6 hg6 hf6;have S6:=Lib.hid (SI.out.grow5 HO6.out hb6 hg6 hf6);have hjn:=SJoin (l:=PL1++[X]) HO6.out (by simp) (by rw [List.flatten_append,List.length_append,show [X].flatten=X by simp];omega) (by rw [List.length_append,List.length_singleton];omega);clear hb6 hg6 hf6 HO6)
              |(go_at_call 19;refine hjn.mono ?_;rintro e w7 ⟨rfl,hb7⟩;have S7:=Lib.hid (S6.out.below hb7);have hsz7:=S7.out.s.size;clear hb7)
              |(at_builtin;refine ZdE rfl _ _ rfl (w.heap.size+1) (.slice A6 DN.length c6) DN rfl w7 _ S7.out.s.o4 hsz7 hdn4 rfl ?_;intro v8 w8 HO8 hb8 hg8 hf8;have S8:=Lib.hid (S7.out.grow4 HO8.out hb8 hg8 hf8).nil5;clear hb8 hg8 hf8 HO8 hjn))
             clear p0 p1 p2 p3 p4 p5 r0 r1 rf rl gl;go_roundw
             case rel=>exact⟨j+1,n+x.toNat,d++[PL1.flatten++X],[],by omega,by go_num,by rw [HTO.out];go_num,by go_num,by rw [HTO.out];omega,by rw [HOP.out],by rw [←List.append_assoc,←HDN.out];exact S8.out,by rw [List.length_append,List.length_singleton];omega,.inr rfl,by rw [HCS.out,HTO.out];simp⟩
             case measure=>simp [intOf];omega
         · have hje:j=p.laces.length:=by omega
           subst hje;have etl:p.laces.take p.laces.length=p.laces:=List.take_length;have hbe:p.body.take (Zc p.laces)=p.body:=List.take_of_length_le (by omega);have hcut:=HC.out;rw [etl,hbe] at hcut;rw [etl] at hfle⊢;clear etl;have hpf2:PL1.flatten.length≤65025*k∧PL1.length≤k:=by
            rcases HP1.out with e|e
            · rw [e];omega
            · rw [e];simp
           have hlb:=ZbL p.laces;have hsm:=HS.out;rw [HJ.out,Zoy,hcut,←HDN.out] at hsm;have HSM:=Lib.hid hsm;have hpf3:=hpf2.1;have hpf4:=hpf2.2;clear hcut hsm hpf2 HC HS;by_cases hft:f<Zc p.laces
           · have hpk:(B p.body).extract f (Zc p.laces)=B ((p.body.drop f).take (Zc p.laces - f)):=Zbx _ _ _;have hXl:((p.body.drop f).take (Zc p.laces - f)).length≤Zc p.laces:=by
              refine Nat.le_trans (List.length_take_le _ _) ?_;omega
             have hd1:decide ((f:Int)<(Zc p.laces:Nat))=true:=decide_eq_true (by omega);generalize (p.body.drop f).take (Zc p.laces - f)=X at*;generalize Zc p.laces=n at*;go_wp2_with (at_builtin;refine ZdE rfl _ _ rfl (w.heap.size+1) (.slice A7 PL1.length c7) PL1 rfl wr X SI.out.s.o5 hsz (by omega) rfl ?_;intro v6 w6 HO6 hb6 hg6 hf6;have S6:=Lib.hid (SI.out.grow5 HO6.out hb6 hg6 hf6).s;clear hb6 hg6 hf6 HO6)
             clear p0 p1 p2 p3 p4 p5 r0 r1 rf rl gl;go_roundw
             case rel=>exact⟨k+1,DN,PL1++[X],ZbZ op p.laces,by omega,by go_num,rfl,S6.out,by have:=HDl.out;omega,by rw [List.length_append,List.length_singleton];omega,by rw [List.flatten_append,List.length_append,show [X].flatten=X by simp];omega,by rw [HSM.out];simp⟩
             case measure=>simp [intOf];omega
           · have hfe:f=Zc p.laces:=by omega
             have hsm:=HSM.out;rw [hfe,Nat.sub_self,List.take_zero,List.append_nil] at hsm;have HSM2:=Lib.hid hsm;have SF:=Lib.hid SI.out.s;clear hsm HSM;go_wp2_with fail
             go_roundw
             case rel=>exact⟨k+1,DN,PL1,ZbZ op p.laces,by omega,by go_num,rfl,SF.out,by have:=HDl.out;omega,by omega,by omega,HSM2.out⟩
             case measure=>simp [intOf];omega
      · have hjp:=Zjx op PL.flatten k p (l.drop (k+1)) (.inr hop);rw [←HD.out] at hjp;have HE:Hid (ZI false [] 0 l= .error k):=Lib.hid (by rw [HS.out,hjp];rfl);have hop2:(p.fl&&&1==1)= !op:=by
         revert hop
         generalize (p.fl&&&1==1)=r;cases r<;>cases op<;>simp
        clear hjp hab hop;go_wp2_with (first
         |(go_at_call 33;(with_reducible refine(hck _).mono ?_);rintro e w2 ⟨rfl,hb⟩;have S2:=Lib.hid (SN.out.below hb);clear hb)
         |(go_at_call 8;(with_reducible refine(hbd _).mono ?_);rintro e w3 ⟨rfl,hb⟩;have S3:=Lib.hid (S2.out.below hb);clear hb p0 p1 p2 p3 p4 p5 r0 r1 rf rl gl;obtain⟨⟨p0,p1,p2,p3,p4,p5⟩,⟨r0,r1⟩,rf,rl,gl⟩:=S3.out.cells)
         |(go_at_call 77;(with_reducible refine(hhs _ _ _ _).mono ?_);rintro e w4 ⟨rfl,hb⟩;have S4:=Lib.hid (S3.out.below hb);clear hb p0 p1 p2 p3 p4 p5 r0 r1 rf rl gl;obtain⟨⟨p0,p1,p2,p3,p4,p5⟩,⟨r0,r1⟩,rf,rl,gl⟩:=S4.out.cells))
        have F:=S4.out.s.fin (.int .i64 1) (.int .i64 (k:Nat));refine bodyPost_ret (Zbg rfl _ _ w.heap.size _ _ _ _ _ rfl rfl F.1 Tryz.underlying45 rfl (by kernel_rfl)) rfl ?_;exact HPe.out k _ HE.out F.2
    · have hjp:=Zjx op PL.flatten k p (l.drop (k+1)) (.inl (by rw [←hab];intro e;injection e with e1;exact ha e1));rw [←HD.out] at hjp;have HE:Hid (ZI false [] 0 l= .error k):=Lib.hid (by rw [HS.out,hjp];rfl);have hbd:=fun w=>Za5 (a:Int) 0 (by omega) w;clear hjp hab hhs;go_wp2_with (first
       |(go_at_call 33;(with_reducible refine(hck _).mono ?_);rintro e w2 ⟨rfl,hb⟩;have S2:=Lib.hid (SN.out.below hb);clear hb)
       |(go_at_call 8;(with_reducible refine(hbd _).mono ?_);rintro e w3 ⟨rfl,hb⟩;have S3:=Lib.hid (S2.out.below hb);clear hb p0 p1 p2 p3 p4 p5 r0 r1 rf rl gl;obtain⟨⟨p0,p1,p2,p3,p4,p5⟩,⟨r0,r1⟩,rf,rl,gl⟩:=S3.out.cells))
      have F:=S3.out.s.fin (.int .i64 1) (.int .i64 (k:Nat));refine bodyPost_ret (Zbg rfl _ _ w.heap.size _ _ _ _ _ rfl rfl F.1 Tryz.underlying45 rfl (by kernel_rfl)) rfl ?_;exact HPe.out k _ HE.out F.2
  · obtain rfl:k=l.length:=by omega
    have hsm:=HS.out;rw [List.drop_length] at hsm;obtain⟨⟨r0,r1⟩,rf,rl⟩:=ST.out.cells;cases op with
    |true=>
     have HE:Hid (ZI false [] 0 l= .error l.length):=Lib.hid (by rw [hsm];rfl);clear hsm;go_wp2_with fail
     have F:=ST.out.fin (.int .i64 1) (.int .i64 (l.length:Nat));refine bodyPost_ret (Zbg rfl _ _ w.heap.size _ _ _ _ _ rfl rfl F.1 Tryz.underlying45 rfl (by kernel_rfl)) rfl ?_;exact HPe.out l.length _ HE.out F.2
    |false=>
     have HE:Hid (ZI false [] 0 l= .ok dn):=Lib.hid (by rw [hsm];show Except.ok (dn++[])=_;rw [List.append_nil]);clear hsm;have RW:=ST.out.rows (.int .i64 0) (.int .i64 0);have HRW:=Lib.hid RW;clear RW;go_wp2_with fail
     have F:=ST.out.fin (.int .i64 0) (.int .i64 0);refine bodyPost_ret (Zbg rfl _ _ w.heap.size _ _ _ _ _ rfl rfl F.1 Tryz.underlying45 rfl (by kernel_rfl)) rfl ?_;exact HPo.out dn _ _ HE.out HRW.out F.2
theorem Zg5 {P:Program} {fn:Func} {t s q:Tmp} {ty2:TypeId} (h:fn.results=#[.tmp t,.tmp s,.cell q ty2])(tmps:Array Value)(w:World)(k:Nat)(T2:TypeId)(cs2:Array Value)(fr2:Nat×Nat)(d2:TypeDesc)(u v:Value)
 (ht:tmps.getD t undef=u) (hs:tmps.getD s undef=v) (hq:tmps.getD q undef= .pointer (some ⟨k,0,none⟩)) (hk:w.heap[k]? =some (.cells cs2 T2 fr2))
 (hu2:P.underlying ty2=some d2) (hd2:(match d2 with| .struct _| .array _ _=>true|_=>false)=true) (hi2:(P.info? ty2).map (·.size)=some cs2.size):
 (results fn tmps).run P w= .ok (.tuple #[u,v,.agg cs2]) w:=by
 have ht':tmps[t]?.getD undef=u:=by simpa using ht
 have hs':tmps[s]?.getD undef=v:=by simpa using hs
 have hq':tmps[q]?.getD undef= .pointer (some ⟨k,0,none⟩):=by simpa using hq
 simp [results,h,ht',hs',hq',asAddr,run_loadVar_row w k T2 ty2 cs2 fr2 d2 hk hu2 hd2 hi2]
def sPg (l:List Pg)(k:Nat):InS:=InS.mk' 0 ((l.take k).map (ZL Zp)).flatten ((l.drop k).map (ZL Zp)).flatten
theorem Zb6 {l:List Pg} {k:Nat} {p:Pg} (h:l[k]? =some p):l.drop k=p::l.drop (k+1)∧l.take (k+1)=l.take k++[p]:=by
 obtain⟨hk,e⟩:=List.getElem?_eq_some_iff.1 h;subst e;exact⟨List.drop_eq_getElem_cons hk,List.take_succ_eq_append_getElem hk⟩
theorem Zqa {l:List Pg} {k:Nat} {p:Pg} (h:l[k]? =some p)(ok:PgOk p):Zdk Zp (sPg l k)=(some p,sPg l (k+1)):=by
 obtain⟨h1,h2⟩:=Zb6 h;unfold sPg;rw [h1,h2,List.map_cons,List.flatten_cons,List.map_append,List.flatten_append];rw [Zps Zp Zgd p ok];simp
theorem Zp9 {l:List Pg} {k:Nat} {p:Pg} (h:l[k]? =some p):¬((sPg l k).e≠0∨(sPg l k).left=0):=by
 obtain⟨h1,_⟩:=Zb6 h;unfold sPg;rw [h1,List.map_cons,List.flatten_cons,InS.left_mk];rintro(e|e)
 · exact e rfl
 · rw [List.length_append,Zpz] at e;omega
theorem Zp8 (l:List Pg):(sPg l l.length).e≠0∨(sPg l l.length).left=0:=by
 right
 unfold sPg;rw [InS.left_mk,List.drop_length];rfl
theorem sPg_0 (l:List Pg):sPg l 0=⟨(l.map (ZL Zp)).flatten,0,0,0,0⟩:=by
 unfold sPg InS.mk';simp
theorem sPg_ea (l:List Pg)(k:Nat):(sPg l k).e=0∧(sPg l k).a=0:=⟨rfl,rfl⟩
structure PaSt (w wr:World)(K base:Nat)(s:InS)(v5 v6:Value)(L:List Pg)(ns:List Int):Prop where
 res:Bx wr w.heap.size #[.int .i64 0,.int .i64 0] 45
 inn:InAt wr K s
 o5:wr.ownsRow base 27 6 v5 L.length (L.flatMap pgL)
 o6:wr.ownsRow base 3 1 v6 ns.length (ns.map iV)
 z5:L=[]→v5= .slice none 0 0
 ne:ZaA v5 v6
 low:Below w.heap.size w wr
 hK:w.heap.size<K
 hb:K<base
 hz:base≤wr.heap.size
section
variable {w wr wy:World} {K base:Nat} {s s':InS} {v5 v6 v':Value} {L:List Pg} {ns:List Int} {p:Pg} {n:Int}
theorem PaSt.below (h:PaSt w wr K base s v5 v6 L ns)(hb:Below wr.heap.size wr wy):PaSt w wy K base s v5 v6 L ns:=
 ⟨h.res.below hb,h.inn.below hb,Zo h.o5 hb,Zo h.o6 hb,h.z5,h.ne,h.low.trans (hb.mono h.low.size),h.hK,h.hb,Nat.le_trans h.hz hb.size⟩
theorem PaSt.alloc (h:PaSt w wr K base s v5 v6 L ns)(o:Obj):PaSt w (wr.alloc o) K base s v5 v6 L ns:=h.below ((Below.refl _ _).alloc (Nat.le_refl _) _)
theorem PaSt.butK (h:PaSt w wr K base s v5 v6 L ns)(hi:InAt wy K s')(hb:But K wr.heap.size wr wy):PaSt w wy K base s' v5 v6 L ns:=
 ⟨h.res.but hb (by have:=h.hK;omega),hi,Zb0 h.o5 hb h.hb,Zb0 h.o6 hb h.hb,h.z5,h.ne,h.low.trans ((hb.mono h.low.size).below (by have:=h.hK;omega)),h.hK,h.hb,Nat.le_trans h.hz hb.size⟩
theorem PaSt.grow5 (h:PaSt w wr K base s v5 v6 L ns)(ho:wy.ownsRow base 27 6 v' (L++[p]).length ((L++[p]).flatMap pgL))(hb:Below base wr wy)(hg:wr.grownBy wy v5.ownBlock)(hf:Za6 wr v5 v'):PaSt w wy K base s v' v6 (L++[p]) ns:=
 ⟨h.res.same6 hb (by have:=h.hK;have:=h.hb;omega),h.inn.same (hb.block K h.hb),ho,World.ownsRow.kept h.o6 hg h.ne.kept,fun e=>absurd e (by simp),h.ne.grow h.o6 hf,h.low.trans (hb.mono (by have:=h.hK;have:=h.hb;omega)),h.hK,h.hb,Nat.le_trans h.hz hg.size⟩
theorem PaSt.grow6 (h:PaSt w wr K base s v5 v6 L ns)(ho:wy.ownsRow base 3 1 v' (ns++[n]).length ((ns++[n]).map iV))(hb:Below base wr wy)(hg:wr.grownBy wy v6.ownBlock)(hf:Za6 wr v6 v'):PaSt w wy K base s v5 v' L (ns++[n]):=
 ⟨h.res.same6 hb (by have:=h.hK;have:=h.hb;omega),h.inn.same (hb.block K h.hb),World.ownsRow.kept h.o5 hg h.ne.symm.kept,ho,h.z5,(h.ne.symm.grow h.o5 hf).symm,h.low.trans (hb.mono (by have:=h.hK;have:=h.hb;omega)),h.hK,h.hb,Nat.le_trans h.hz hg.size⟩
end
def PgsRel (w:World)(K base:Nat)(l:List Pg)(v5 v6:Value)(wr:World):Prop:=∃(k:Nat) (ns:List Int),k≤l.length∧ns.length=k∧PaSt w wr K base (sPg l k) v5 v6 (l.take k) ns
def ZfH (w:World)(l:List Pg)(e:Ending)(w':World):Prop:=∃v5 v6,e= .returned (.tuple #[v5,v6,.agg #[.int .i64 0,.int .i64 0]])∧Zg pgL w.heap.size w' v5 l∧Below w.heap.size w w'
theorem Zmg (l:List Pg)(hn:l.length≤100000)(hok:∀p∈l,PgOk p)(hlen:((l.map (ZL Zp)).flatten).length≤900000000)(w:World):
 Calls Tryz.prog 47 #[.string (B ((l.map (ZL Zp)).flatten))] w (ZfH w l):=by
 have hrd:=fun w=>Zh8 ((l.map (ZL Zp)).flatten) (by omega) w;rw [←sPg_0 l] at hrd;have hfe:=sPg_ea l l.length;have hpe:=fun K w h=>Zmk K (sPg l l.length) w h (Zp8 l);unfold pgZ at hpe;have hfa:=fun K w h=>ZbQ K (sPg l l.length) w h;rw [hfe.1,hfe.2] at hfa;have hbd:=fun w=>ZT 0 0 rfl w;have HOK:=Lib.hid hok;generalize hP:ZfH w l=P;have HP:Hid (∀v5 v6 w',Zg pgL w.heap.size w' v5 l→Below w.heap.size w w'→P (.returned (.tuple #[v5,v6,.agg #[.int .i64 0,.int .i64 0]])) w'):=Lib.hid fun v5 v6 w' h1 h2=>by rw [←hP];exact⟨v5,v6,rfl,h1,h2⟩
 have R0:=Lib.hid (Bx.new w #[.int .i64 0,.int .i64 0] 45);have L0:=Lib.hid ((Below.refl _ w).alloc (Nat.le_refl _) (.cells #[.int .i64 0,.int .i64 0] 45));generalize B ((l.map (ZL Zp)).flatten)=FB at*;clear hP hok hfe hlen;go_enter Tryz.func47,Tryz.ntmps47
 go_wp2_with (go_at_call 52;refine(hrd _).mono ?_;rintro e w1 ⟨K,rfl,hi,hb1,hk1,hk2⟩;have ST0:Hid (PaSt w w1 K w1.heap.size (sPg l 0) (.slice none 0 0) (.slice none 0 0) [] []):=Lib.hid ⟨R0.out.below hb1,hi,⟨rfl,.inl ⟨rfl,rfl⟩⟩,⟨rfl,.inl ⟨rfl,rfl⟩⟩,fun _=>rfl,ZaA.nil,L0.out.trans (hb1.mono (by simp)),(by rw [World.size_alloc] at hk1;omega),hk2,Nat.le_refl _⟩;clear hi hb1 hk1 hk2)
 clear hrd R0 L0;generalize w1.heap.size=base at*;go_loopw [5,6] (fun v5 v6 wr=>PgsRel w K base l v5 v6 wr) (fun v5 _ _=>l.length - lenV v5)
 case atStart=>exact⟨0,[],Nat.zero_le _,rfl,ST0.out⟩
 case round=>
  obtain⟨k,ns,hk,hns,hst⟩:=hrel;have ST:=Lib.hid hst;clear hst ST0;have hLl:(l.take k).length=k:=by rw [List.length_take];omega
  have hat:=fun w h=>Zdu K (sPg l k) w h;by_cases hlt:k<l.length
  · obtain⟨p,hk1⟩:∃p,l[k]? =some p:=⟨_,List.getElem?_eq_getElem hlt⟩
    have ok:=HOK.out p (List.mem_of_getElem? hk1);have hpa:=fun w h=>Zmj K (sPg l k) w h (Zp9 hk1);rw [Zqa hk1 ok] at hpa;have HT:=Lib.hid (Zb6 hk1).2;clear hk1 hpe hfa;unfold ZfJ pgA at hpa;generalize l.take k=L at*;obtain⟨_,A5,c5,hv5,hc5⟩:=ZbF ST.out.o5;obtain⟨_,A6,c6,hv6,hc6⟩:=ZbF ST.out.o6;have hmx:((k:Int)==1048576)=false:=by rw [beq_eq_false_iff_ne];omega
    have hz:=ST.out.hz;generalize (sPg l k).at_=at_ at*;obtain⟨s2,hs2⟩:∃q,q=sPg l (k+1):=⟨_,rfl⟩
    rw [←hs2] at hpa;have HS2:=Lib.hid hs2;clear hs2;generalize sPg l k=s1 at*;have hLk:L.length≤16777216:=by omega
    have hNk:ns.length≤16777216:=by omega
    have HLl:=Lib.hid hLl;have HNl:=Lib.hid hns;rw [hLl] at hv5;rw [hns] at hv6;subst hv5 hv6;clear hLl hns;go_wp2_with (first
     |(go_at_call 57;refine(hat _ ST.out.inn).mono ?_;rintro e w2 ⟨rfl,rfl⟩)
     |(go_at_call 110;refine(hpa _ ST.out.inn).mono ?_;rintro e w3 ⟨hi3,hb3,rfl,hfit⟩;have S3:=Lib.hid ((ST.out.butK hi3 hb3).alloc (.cells (pgA p) 27));have PB:=Bx.new w3 (pgA p) 27;have hz3:=S3.out.hz;clear hi3 hb3)
     |(at_builtin;refine ZfZ rfl _ _ rfl base (.slice A5 k c5) L rfl _ p _ rfl S3.out.o5 hz3 hLk (by show Value.slice (some ⟨w3.heap.size+1,0,none⟩) 1 1=_;rw [World.size_alloc]) ?_;intro v6 w6 HO6 hb6 hg6 hf6;have S6:=Lib.hid (S3.out.grow5 HO6.out hb6 hg6 hf6);have hz6:=S6.out.hz;clear hb6 hg6 hf6 HO6)
     |(at_builtin;refine Zm8 rfl _ _ rfl base (.slice A6 k c6) ns rfl w6 _ S6.out.o6 hz6 hNk rfl ?_;intro v8 w8 HO8 hb8 hg8 hf8;have S8:=Lib.hid (S6.out.grow6 HO8.out hb8 hg8 hf8);clear hb8 hg8 hf8 HO8))
    go_roundw
    case rel=>exact⟨k+1,ns++[(at_:Int)],by omega,by rw [List.length_append,HNl.out];rfl,by rw [HT.out,←HS2.out];exact S8.out⟩
    case measure=>
     obtain⟨hl8,A8,c8,hv8,_⟩:=ZbF S8.out.o5;subst hv8;rw [List.length_append,HLl.out];show l.length - (k+1)<l.length - k
     omega
  · obtain rfl:k=l.length:=by omega
    clear hat;have hz:=ST.out.hz;have r0:=ST.out.res.cell 0;have r1:=ST.out.res.cell 1;go_wp2_with (first
     |(go_at_call 57;refine(Zdu K _ _ ST.out.inn).mono ?_;rintro e w2 ⟨rfl,rfl⟩)
     |(go_at_call 110;refine(hpe K _ ST.out.inn).mono ?_;rintro e w3 ⟨rfl,hb3⟩;have S3:=Lib.hid ((ST.out.below hb3).alloc (.cells pgZ 27));clear hb3)
     |(go_at_call 55;refine(hfa K _ S3.out.inn).mono ?_;rintro e w4 ⟨rfl,hb4⟩;have S4:=Lib.hid ((S3.out.below hb4).alloc (.cells #[.int .i64 0,.int .i64 0] 45));clear hb4)
     |(go_at_call 8;refine(hbd _).mono ?_;rintro e w5 ⟨rfl,hb5⟩;have S5:=Lib.hid (S4.out.below hb5);clear hb5 r0 r1;have r0:=S5.out.res.cell 0;have r1:=S5.out.res.cell 1;have rf:=S5.out.res.free;have rl:=S5.out.res.lt))
    have F:=Za9 S5.out.res (.int .i64 0) (.int .i64 0);refine bodyPost_ret (Zg5 rfl _ _ w.heap.size _ _ _ _ _ _ rfl rfl rfl F Tryz.underlying45 rfl (by kernel_rfl)) rfl ?_;have hro:=Zg.of_own (f:=pgL) rfl S5.out.o5 S5.out.z5;rw [List.take_length] at hro;exact HP.out _ _ _ (((hro.set (by have:=S5.out.hK;have:=S5.out.hb;omega) 0 _).set (by have:=S5.out.hK;have:=S5.out.hb;omega) 1 _).low (by have:=S5.out.hK;have:=S5.out.hb;omega)) ((S5.out.low.setCell (p:=⟨w.heap.size,0,none⟩) (Nat.le_refl _) _).setCell (p:=⟨w.heap.size,1,none⟩) (Nat.le_refl _) _)
theorem Zlh {ser:Nat}:∀{l:List Pg} {i:Nat},Zbh ser i l=none→∀(k:Nat) p,l[k]? =some p→p.ser=ser∧p.num=(i+k) % 4294967296∧(0<i+k→(p.fl&&&2==2)=false)
 |[],_,_,_,_,h=>by simp at h
 |q::l,i,h,k,p,hk=>by
  rw [Zbh] at h;split at h
  · cases h
  · next hc=>
    cases k with
    |zero=>
     simp only [List.getElem?_cons_zero,Option.some.injEq] at hk;subst hk;refine⟨Classical.not_not.1 fun e=>hc (.inl e),Classical.not_not.1 fun e=>hc (.inr (.inl e)),fun h0=> ?_⟩;rw [beq_eq_false_iff_ne];exact fun e=>hc (.inr (.inr ⟨h0,e⟩))
    |succ k=>
     rw [List.getElem?_cons_succ] at hk;have:=Zlh h k p hk;rw [show i+1+k=i+(k+1) by omega] at this;exact this
theorem addr0 (ad:Addr)(j:Nat):(⟨(ad.add (0*6)).block,(ad.add (0*6)).off+j,none⟩:Addr)=⟨ad.block,ad.off+j,none⟩:=by
 rw [Nat.zero_mul];unfold Addr.add;split<;>simp_all
section
variable {P:Program} {l:List Oper} {Q:Exit→Act→World→Prop} {S:World→Prop}
theorem ZoJ {i:Nat} {r:List (Nat×Bool)} {o:Oper} {a:Act} {w:World} (ho:Zan l i=some o)(hw:Region.wanted o (yielded l.toArray a.tmps)=false)(h:Zay P l Q S r (a.put o.dst undef) w):Zay P l Q S ((i,false)::r) a w:=
 ⟨o,ho,by rw [if_neg (by rw [hw];decide)];exact h⟩
end
def StrRel (w:World)(l:List Pg)(i:Value)(wr:World):Prop:=∃k:Nat,k≤l.length∧i= .int .i64 k∧Below w.heap.size w wr
theorem ZmP (A:Option Addr)(c:Nat)(l:List Pg)(ser:Nat)(hs:Zbh ser 0 l=none)(hser:ser<4294967296)(hn:l.length≤1000000)(w:World)(h:RdN 6 pgL w w.heap.size A l):
 Calls Tryz.prog 48 #[.slice A l.length c] w fun e w'=>e= .returned (.int .i64 (-1))∧Below w.heap.size w w':=by
 have HR:=Lib.hid h;have HS:=Lib.hid (Zlh hs);clear h hs;generalize hP:(fun(e:Ending) (w':World)=>e=Ending.returned (.int .i64 (-1))∧Below w.heap.size w w')=P;have HP:Hid (∀w',Below w.heap.size w w'→P (.returned (.int .i64 (-1))) w'):=Lib.hid fun w' h=>by rw [←hP];exact⟨rfl,h⟩
 clear hP;go_enter Tryz.func48,Tryz.ntmps48
 go_wp2_with fail
 go_loopw [7] (fun i wr=>StrRel w l i wr) (fun i _=>l.length - (intOf i).toNat)
 case atStart=>exact⟨0,Nat.zero_le _,rfl,Below.refl _ _⟩
 case round=>
  obtain⟨k,hk,rfl,hlo⟩:=hrel;have LO:=Lib.hid hlo;clear hlo;by_cases hlt:k<l.length
  · obtain⟨p,hk1⟩:∃p,l[k]? =some p:=⟨_,List.getElem?_eq_getElem hlt⟩
    obtain⟨q,hk0⟩:∃q,l[0]? =some q:=⟨_,List.getElem?_eq_getElem (by omega)⟩
    have hp:=HS.out k p hk1;have hq:=(HS.out 0 q hk0).1;obtain⟨ad,rfl,hadb,y0,y1,y2,y3,y4,y5⟩:=(HR.out.below LO.out).page hk1;obtain⟨ad2,hA2,hadb2,z0,z1,z2,z3,z4,z5⟩:=(HR.out.below LO.out).page hk0;obtain rfl:ad=ad2:=Option.some.inj hA2;have hbl:ad.block<wr.heap.size:=Nat.lt_of_lt_of_le hadb LO.out.size;rw [hq] at z2;rw [hp.1] at y2;have hnum:p.num=k:=by rw [hp.2.1];omega
    rw [hnum] at y3;have hw1:IntKind.u32.wrap (k:Int)=k:=by rw [IntKind.wrap_u32];omega
    have hpos1:(0:Int)<(l.length:Int):=by omega
    have hpos2:(1:Int)≤(l.length:Int):=by omega
    have hhs:=fun x1 x2 x3 w=>ZcV p.fl 2 2 rfl x1 x2 x3 w;have HFL:=Lib.hid hp.2.2;clear hk1 hk0 hp hq;have PB:=Lib.hid (Bx.new wr #[.int .u8 p.fl.toNat,.int .u64 (p.pos:Nat),.int .u32 (ser:Nat),.int .u32 (k:Nat),.string (B p.laces),.string (B p.body)] 27);have L1:=Lib.hid (LO.out.alloc LO.out.size (.cells #[.int .u8 p.fl.toNat,.int .u64 (p.pos:Nat),.int .u32 (ser:Nat),.int .u32 (k:Nat),.string (B p.laces),.string (B p.body)] 27));go_upto_region 4 with fail
    generalize hW1:wr.alloc (.cells #[.int .u8 p.fl.toNat,.int .u64 (p.pos:Nat),.int .u32 (ser:Nat),.int .u32 (k:Nat),.string (B p.laces),.string (B p.body)] 27)=W1 at*;have Z2:Hid (W1.cell? ⟨ad.block,ad.off+2,none⟩=some (.int .u32 (ser:Nat))):=Lib.hid (by rw [←hW1];exact(((Below.refl _ wr).alloc (Nat.le_refl _) _).cell (p:=⟨ad.block,ad.off+2,none⟩) hbl).trans (by rw [←addr0 ad 2];exact z2));have KEEP:Hid (∀w',Below W1.heap.size W1 w'→(w'.cell? ⟨wr.heap.size,0,none⟩=some (.int .u8 p.fl.toNat)∧w'.cell? ⟨wr.heap.size,1,none⟩=some (.int .u64 (p.pos:Nat))∧w'.cell? ⟨wr.heap.size,2,none⟩=some (.int .u32 (ser:Nat))∧w'.cell? ⟨wr.heap.size,3,none⟩=some (.int .u32 (k:Nat))∧w'.cell? ⟨ad.block,ad.off+2,none⟩=some (.int .u32 (ser:Nat)))∧Below w.heap.size w w'):=Lib.hid fun w' hb=>by
     have q:=PB.out.below hb;exact⟨⟨q.cell 0,q.cell 1,q.cell 2,q.cell 3,(hb.cell (p:=⟨ad.block,ad.off+2,none⟩) (by rw [←hW1,World.size_alloc];show ad.block<_;omega)).trans Z2.out⟩,L1.out.trans (hb.mono L1.out.size)⟩
    have RF:Hid (Below W1.heap.size W1 W1.drew):=Lib.hid (below_drewN (Below.refl W1.heap.size W1) 1);have hG:wr.heap.size<W1.heap.size:=by rw [←hW1,World.size_alloc];omega
    have hbl1:ad.block<W1.heap.size:=by omega
    generalize wr.heap.size=G at*;have hpos3:0<l.length:=by omega
    obtain⟨n,hnl⟩:∃n,n=l.length:=⟨_,rfl⟩
    have HNL:=Lib.hid hnl;rw [←hnl] at hlt hpos1 hpos2 hpos3 hk hn⊢;clear hnl;clear y0 y1 y2 y3 y4 y5 z0 z1 z2 z3 z4 z5 hW1 PB L1 Z2;by_cases hk0:k=0
    · subst hk0;clear HFL;simp only [show((0:Nat):Int)=0 from rfl] at KEEP hw1⊢;refine ZbM (fun w'=>w'.cell? ⟨G,0,none⟩=some (.int .u8 p.fl.toNat)∧w'.cell? ⟨G,1,none⟩=some (.int .u64 (p.pos:Nat))∧w'.cell? ⟨G,2,none⟩=some (.int .u32 (ser:Nat))∧w'.cell? ⟨G,3,none⟩=some (.int .u32 0)∧w'.cell? ⟨ad.block,ad.off+2,none⟩=some (.int .u32 (ser:Nat))) [(0,true),(1,true),(2,true),(3,true),(4,true),(5,true),(6,true),(7,true),(8,true),(9,true),(10,true),(11,true),(12,true),(13,true),(14,true),(15,true),(16,true),(17,true),(18,true),(19,true),(20,true),(21,true),(22,true),(23,false),(24,true),(25,true)] (by kernel_rfl) (by kernel_rfl) (by kernel_rfl) (Nat.le_of_ble_eq_true rfl) (fun _ _ d _ _ h=>by cases d<;>exact h) (KEEP.out _ RF.out).1 ?_
      iterate 21 (refine' ZW rfl (by rfl) _ (fun w' hSw=>_) _;rotate_left;(obtain⟨s0,s1,s2,s3,s4⟩:=hSw;go_simp;try with_reducible rfl);try simp only [Act.put,List.setIfInBounds_toArray,List.set_cons_zero,List.set_cons_succ])
      iterate 2 (refine ZeS rfl (by rfl) ?_;try simp only [Act.put,List.setIfInBounds_toArray,List.set_cons_zero,List.set_cons_succ])
      refine ZoJ rfl (by rfl) ?_
      try simp only [Act.put,List.setIfInBounds_toArray,List.set_cons_zero,List.set_cons_succ]
      iterate 2 (refine' ZW rfl (by rfl) _ (fun w' hSw=>_) _;rotate_left;(obtain⟨s0,s1,s2,s3,s4⟩:=hSw;go_simp;try with_reducible rfl);try simp only [Act.put,List.setIfInBounds_toArray,List.set_cons_zero,List.set_cons_succ])
      refine ZbD ?_;obtain rfl:=HNL.out;go_wp2_with fail
      go_roundw
      case rel=>exact⟨1,by omega,rfl,(KEEP.out _ RF.out).2⟩
      case measure=>simp [intOf];omega
    · have hq:0<(k:Int):=by omega
      have hq2:0<k:=by omega
      have hq3:decide (0<(k:Int))=true:=decide_eq_true hq;have hfl:=HFL.out (by omega);rw [hfl] at hhs;refine ZbM (fun w'=>w'.cell? ⟨G,0,none⟩=some (.int .u8 p.fl.toNat)∧w'.cell? ⟨G,1,none⟩=some (.int .u64 (p.pos:Nat))∧w'.cell? ⟨G,2,none⟩=some (.int .u32 (ser:Nat))∧w'.cell? ⟨G,3,none⟩=some (.int .u32 (k:Nat))∧w'.cell? ⟨ad.block,ad.off+2,none⟩=some (.int .u32 (ser:Nat))) [(0,true),(1,true),(2,true),(3,true),(4,true),(5,true),(6,true),(7,true),(8,true),(9,true),(10,true),(11,true),(12,true),(13,true),(14,true),(15,true),(16,true),(17,true),(18,true),(19,true),(20,true),(21,true),(22,true),(23,false),(24,true),(25,true)] (by kernel_rfl) (by kernel_rfl) (by kernel_rfl) (Nat.le_of_ble_eq_true rfl) (fun _ _ d _ _ h=>by cases d<;>exact h) (KEEP.out _ RF.out).1 ?_
      iterate 23 (refine' ZW rfl (by rfl) _ (fun w' hSw=>_) _;rotate_left;(obtain⟨s0,s1,s2,s3,s4⟩:=hSw;go_simp;try with_reducible rfl);try simp only [Act.put,List.setIfInBounds_toArray,List.set_cons_zero,List.set_cons_succ])
      refine Zac rfl (by rfl) (fun KK hKK=> ?_)
      go_simp
      go_at_call 77
      refine(hhs _ _ _ _).mono ?_;rintro e w4 ⟨rfl,hb⟩;have RG:=Lib.hid (RF.out.trans (hb.mono RF.out.size));clear hb;go_wp2_with fail
      refine hKK.out _ _ (KEEP.out _ RG.out).1 ?_;clear hKK KK
      try simp only [Act.put,List.setIfInBounds_toArray,List.set_cons_zero,List.set_cons_succ]
      iterate 2 (refine' ZW rfl (by rfl) _ (fun w' hSw=>_) _;rotate_left;(obtain⟨s0,s1,s2,s3,s4⟩:=hSw;go_simp;try with_reducible rfl);try simp only [Act.put,List.setIfInBounds_toArray,List.set_cons_zero,List.set_cons_succ])
      refine ZbD ?_;obtain rfl:=HNL.out;go_wp2_with fail
      go_roundw
      case rel=>exact⟨k+1,by omega,by go_num,(KEEP.out _ RG.out).2⟩
      case measure=>simp [intOf];omega
  · obtain rfl:k=l.length:=by omega
    go_wp2_with fail
    exact HP.out _ LO.out
theorem Zn4 (l:List UInt8)(j:Nat)(h:j<l.length):ZV (l.take (j+1))=ZV (l.take j)+if l[j]=255 then 0 else 1:=by
 unfold ZV;rw [List.take_succ_eq_append_getElem h,List.countP_append];by_cases e:l[j]=255
 · rw [if_pos e,e];rfl
 · rw [if_neg e,List.countP_singleton,if_pos (by simpa using e)]
theorem Zn5 (l:List UInt8)(j:Nat):ZV (l.take j)≤l.length:=by
 unfold ZV;refine Nat.le_trans List.countP_le_length ?_;rw [List.length_take];omega
def secV (r:Option Nat):Int:=match r with
 |some k=>k
 |none=> -1
def Se1Rel (l:List Pg)(n i:Value):Prop:=∃(m k:Nat),m<2∧1≤k∧(k≤l.length∨k=1)∧n= .int .i64 m∧i= .int .i64 k∧ZaN 0 1 (l.drop 1)=ZaN m k (l.drop k)
def Se2Rel (la:List UInt8)(m:Nat)(n j:Value):Prop:=∃k:Nat,k≤la.length∧j= .int .i64 k∧n= .int .i64 (m+ZV (la.take k):Nat)
theorem ZmK (A:Option Addr)(c:Nat)(l:List Pg)(hn:l.length≤1000000)(hla:∀p∈l,p.laces.length≤1000000000)(w:World)(h:RdN 6 pgL w w.heap.size A l):
 Calls Tryz.prog 113 #[.slice A l.length c] w fun e w'=>e= .returned (.int .i64 (secV (ZaN 0 1 (l.drop 1))))∧w=w':=by
 have HR:=Lib.hid h;have HL:=Lib.hid hla;clear h hla;generalize hP:(fun(e:Ending) (w':World)=>e=Ending.returned (.int .i64 (secV (ZaN 0 1 (l.drop 1))))∧w=w')=P;have HP:Hid (∀r,ZaN 0 1 (l.drop 1)=r→P (.returned (.int .i64 (secV r))) w):=Lib.hid fun r h=>by rw [←hP,h];exact⟨rfl,rfl⟩
 clear hP;go_enter Tryz.func113,Tryz.ntmps113
 go_wp2_with fail
 go_loop [3,4] (fun n i=>Se1Rel l n i) (fun _ i=>l.length - (intOf i).toNat)
 case atStart=>exact⟨0,1,by omega,by omega,.inr rfl,rfl,rfl,rfl⟩
 case round=>
  obtain⟨m,k,hm,hk1,hkl,rfl,rfl,hsem⟩:=hrel;have HS:=Lib.hid hsem;clear hsem;by_cases hlt:k<l.length
  · obtain⟨p,hk⟩:∃p,l[k]? =some p:=⟨_,List.getElem?_eq_getElem hlt⟩
    have hpl:=HL.out p (List.mem_of_getElem? hk);obtain⟨ad,rfl,hadb,y0,y1,y2,y3,y4,y5⟩:=HR.out.page hk;have hsl:=Zm p.laces;have hs2:=HS.out;rw [(Zb6 hk).1,ZaN] at hs2;have HS2:=Lib.hid hs2;clear hk hs2 HS;generalize p.laces=la at*;go_wp2_with fail
    go_loop [3,20] (fun n j=>Se2Rel la m n j) (fun _ j=>la.length - (intOf j).toNat)
    case atStart=>exact⟨0,Nat.zero_le _,rfl,rfl⟩
    case round=>
     obtain⟨j,hj,rfl,rfl⟩:=hrel;have hle:=Zn5 la j;by_cases hlj:j<la.length
     · have hg:=Zbp la j hlj;have hes:=Zn4 la j hlj;have hq:=Zd9 la[j] 255;rw [show(((255:UInt8).toNat:Nat):Int)=255 from rfl] at hq;by_cases h255:la[j]=255
       · rw [if_pos h255] at hes;have hq2:((la[j].toNat:Int) !=255)=false:=by rw [h255];rfl
         have HE:=Lib.hid hes;clear hes hq h255;generalize la[j]=x at*;generalize ZV (la.take j)=E at*;go_wp2_with fail
         go_round
         case rel=>exact⟨j+1,by omega,by go_num,by rw [HE.out];go_num⟩
         case measure=>simp [intOf];omega
       · rw [if_neg h255] at hes;have hq2:((la[j].toNat:Int) !=255)=true:=by rw [bne,hq,show(la[j]==255)=false by simpa using h255];rfl
         have HE:=Lib.hid hes;clear hes hq h255;generalize la[j]=x at*;generalize ZV (la.take j)=E at*;go_wp2_with fail
         go_round
         case rel=>exact⟨j+1,by omega,by go_num,by rw [HE.out];go_num⟩
         case measure=>simp [intOf];omega
     · obtain rfl:j=la.length:=by omega
       have hs3:=HS2.out;rw [List.take_length] at hle⊢;generalize ZV la=E at*;by_cases h2:2≤m+E
       · rw [if_pos h2] at hs3;have HS3:=Lib.hid hs3;have hd:decide (2≤(m:Int)+(E:Int))=true:=decide_eq_true (by omega);clear hs3 HS2;go_wp2_with fail
         exact HP.out (some k) HS3.out
       · rw [if_neg h2] at hs3;have HS3:=Lib.hid hs3;have hd:decide (2≤(m:Int)+(E:Int))=false:=decide_eq_false (by omega);clear hs3 HS2;go_wp2_with fail
         go_round
         case rel=>exact⟨m+E,k+1,by omega,by omega,.inl (by omega),by go_num,by go_num,HS3.out⟩
         case measure=>simp [intOf];omega
  · have hs2:=HS.out;rw [List.drop_of_length_le (show l.length≤k by omega)] at hs2;have HS2:Hid (ZaN 0 1 (l.drop 1)=none):=Lib.hid hs2;clear hs2;go_wp2_with fail
    exact HP.out none HS2.out
end Go.Proofs.YtnbkfkbcpfkddaaGreatDoor
