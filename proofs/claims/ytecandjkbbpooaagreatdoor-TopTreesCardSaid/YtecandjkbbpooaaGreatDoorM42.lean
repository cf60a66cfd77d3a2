/- Lemmas for a statement on the tops; conditions: as each says. -/
import Derived.Test.YtecandjkbbpooaaGreatDoorM37
import Derived.Test.YtecandjkbbpooaaGreatDoorM41
set_option linter.unusedVariables false
set_option linter.unusedSimpArgs false
set_option maxRecDepth 100000
set_option maxHeartbeats 4000000
namespace Go.Proofs.YtecandjkbbpooaaGreatDoor
open Go Go.RowKit
theorem not_zero:∀t:List UInt8,Lib.indexByte t 0<0→(0:UInt8)∉t
 |[],_=>by simp
 |b::l,h=>by
  have hge:=Lib.indexByte_ge l 0;rw [Lib.indexByte] at h;by_cases hb:b=0
  · rw [if_pos (by simp [hb])] at h;exact absurd h (by decide)
  · rw [if_neg (by simpa using hb)] at h;by_cases h1:Lib.indexByte l 0= -1
    · simp only [List.mem_cons,not_or];exact⟨fun e=>hb e.symm,not_zero l (by omega)⟩
    · rw [if_neg (by simpa using h1)] at h;omega
theorem Znh {t:List UInt8} (h:Zc8 t=false):t.all (· !=0)=true:=by
 unfold Zc8 at h;have h1:=not_zero t (by have:=of_decide_eq_false h;omega);rw [List.all_eq_true];intro x hx;simp only [bne_iff_ne,ne_eq];intro e;exact h1 (e▸hx)
theorem Zid {u:Int} (h0:0<u)(h1:u<65536)(r:List UInt8):Zbx (two false u++r)=Zbx r:=by
 obtain⟨a,b,e,hu⟩:=ZgL false (Int.le_of_lt h0) h1;rw [e];show(!(a==0&&b==0)&&Zbx r)=Zbx r
 have:(a==0&&b==0)=false:=by
  rw [Bool.and_eq_false_iff,beq_eq_false_iff_ne,beq_eq_false_iff_ne];by_cases ha:a=0
  · refine .inr fun hb=> ?_;subst ha hb;exact absurd hu (by rw [show Zs false 0 0=0 from rfl];omega)
  · exact .inl ha
 rw [this];rfl
theorem Zss {p:Int} (hs:Zv p=true)(h0:p≠0)(r:List UInt8):Zbx (Zaz false p++r)=Zbx r:=by
 have h:=ZaN.1 hs;unfold Zaz;split
 · exact Zid (by omega) (by omega) r
 · rw [List.append_assoc,Zid (by omega) (by omega),Zid (by omega) (by omega)]
theorem ZlU:∀ps:List Int,(∀p∈ps,Zv p=true∧p≠0)→Zbx (Zr false ps)=true
 |[],_=>rfl
 |p::ps,h=>by
  obtain⟨h1,h2⟩:=h p (List.mem_cons_self ..);rw [Zdz,Zss h1 h2];exact ZlU ps fun q hq=>h q (List.mem_cons_of_mem _ hq)
theorem Zsr {t:List UInt8} (hu:Zbz t=true)(hz:t.all (· !=0)=true):Zbx (enU t)=true:=by
 unfold Zbz at hu;unfold enU;rcases Zdx t with⟨ps,h,e⟩|⟨n,h,e⟩
 · rw [e];show(!((255:UInt8)==0&&(254:UInt8)==0)&&Zbx (Zr false ps))=true
   rw [ZlU ps fun p hp=>⟨h.2 p hp,fun h0=> ?_⟩]
   · rfl
   · subst h0;have ht:t=Zc ps:=h.1;have:(0:UInt8)∈t:=by
      rw [ht];exact List.mem_flatMap.2 ⟨0,hp,by rw [show Lib.encodeRune 0=[0] by decide];exact List.mem_singleton.2 rfl⟩
     have h2:=List.all_eq_true.1 hz 0 this;exact absurd h2 (by decide)
 · rw [e] at hu;cases hu
def enX (e:Nat)(t:List UInt8):List UInt8:=if e=3 then t else enU t
def setX (v:Nat):Nat:=if v=4 then 7 else 8
def toPt (v:Nat)(l:Lt)(p:Pi):Pt:=⟨l,p.raw,p.text,if ZY l then setX v else 0⟩
def ZbI (v:Nat):List Lt→List Pi→List Pt
 |l::ls,p::ps=>toPt v l p::ZbI v ls ps
 |_,_=>[]
theorem Zm6 (v:Nat){t:List UInt8} (hu:Zbz t=true)(fb:Nat)(det:Bool):wdF fb det (Zo v) (enX (Zo v) t)= .ok (t,setX v):=by
 unfold Zbz at hu;rcases Zdx t with⟨ps,h,e⟩|⟨n,h,e⟩
 · have htx:Zc ps=t:=h.1.symm.trans rfl;by_cases h4:v=4
   · unfold wdF Zo setX enX;rw [if_pos h4,if_pos h4,if_pos rfl,if_neg (by decide),if_neg (by decide),if_neg (by decide),e,wdR,htx]
   · unfold wdF Zo setX enX;rw [if_neg h4,if_neg h4,if_neg (by decide),if_pos rfl,if_neg (by decide:¬1=3)];have hen:enU t=[255,254]++Zr false ps:=by unfold enU;rw [e]
     have hm:Zb8 ([255,254]++Zr false ps)= .inl ps:=by
      have hun:ZbY false (Zr false ps)= .inl ps:=ZmZ (Zuf false h.2);show(if([255,254]++Zr false ps:List UInt8)=[] then _ else if Zbs ([255,254]++Zr false ps)=false then _ else dplus 2 (ZbY (Zak ([255,254]++Zr false ps)) (([255,254]++Zr false ps).drop 2)))=_
      rw [if_neg (by simp),if_neg (by simp [Zbs])];rw [show Zak ([255,254]++Zr false ps)=false from rfl,show([255,254]++Zr false ps:List UInt8).drop 2=Zr false ps from rfl,hun];rfl
     rw [hen,hm,show Zak ([255,254]++Zr false ps)=false from rfl,wdR,htx];rfl
 · rw [e] at hu;cases hu
theorem Zmn {l:Lt} {p:Pi} (h:Zh l p=0):p.raw= !ZY l:=by
 unfold Zh at h;split at h
 · cases h
 · rename_i hr
   cases hp:p.raw<;>cases ht:ZY l<;>simp_all
theorem Zf3 (v:Nat):Zo v=3∨Zo v=1:=by unfold Zo;split<;>simp
theorem enT_X {e:Nat} (he:e=3∨e=1)(t:List UInt8):enT e t=enX e t:=by
 unfold enT enX;rcases he with rfl|rfl<;>simp
theorem ZpI {v e:Nat} {l:Lt} {p:Pi} (he:e=3∨e=1)(h:Zh l p=0):ZaY e (enX e) (toPt v l p)=enP e p++tlP e l:=by
 have hr:=Zmn h;unfold ZaY enP toPt tlP;cases l<;>simp only [ZY,Bool.not_true,Bool.not_false] at hr<;>rw [hr]<;>simp [enT_X he]
theorem Zmg {v e:Nat} (he:e=3∨e=1):∀(ls:List Lt) (ps:List Pi) (i:Nat),ckL ls ps i=(0,0)→((ZbI v ls ps).map (ZaY e (enX e))).flatten=prL e ls ps
 |[],[],_,_=>rfl
 |[],_::_,_,h=>by simp [ckL] at h
 |_::_,[],_,h=>by simp [ckL] at h
 |l::ls,p::ps,i,h=>by
  rw [ckL] at h;by_cases hw:Zh l p=0
  · rw [if_neg (by simpa using hw)] at h;have ih:=Zmg (v:=v) he ls ps (i+1) h;rw [ZbI,List.map_cons,List.flatten_cons,ZpI he hw,ih,prL,List.append_assoc]
  · rw [if_pos hw] at h;simp only [Prod.mk.injEq] at h;exact absurd h.1 hw
theorem pts_l {v:Nat}:∀(ls:List Lt) (ps:List Pi) (i:Nat),ckL ls ps i=(0,0)→(ZbI v ls ps).map (·.l)=ls
 |[],[],_,_=>rfl
 |[],_::_,_,h=>by simp [ckL] at h
 |_::_,[],_,h=>by simp [ckL] at h
 |l::ls,p::ps,i,h=>by
  rw [ckL] at h;by_cases hw:Zh l p=0
  · rw [if_neg (by simpa using hw)] at h;rw [ZbI,List.map_cons,pts_l ls ps (i+1) h];rfl
  · rw [if_pos hw] at h;simp only [Prod.mk.injEq] at h;exact absurd h.1 hw
theorem pt_ok {v:Nat} {l:Lt} {p:Pi} (h:Zh l p=0)(fb:Nat)(det:Bool):Zeb (Zo v) (enX (Zo v)) (wdF fb det (Zo v)) (toPt v l p):=by
 have hr:=Zmn h;unfold Zh at h;rw [if_neg (by rw [hr];cases ZY l<;>decide)] at h;unfold Zeb toPt;cases l with
 |lang=>simp only at h⊢;split at h<;>first|(rename_i h3;exact⟨hr,rfl,h3⟩)|cases h
 |fmt=>simp only at h⊢;split at h<;>first|(rename_i h3;exact⟨hr,rfl,h3⟩)|cases h
 |kind=>simp only at h⊢;split at h<;>first|(rename_i h3;exact⟨hr,rfl,h3⟩)|cases h
 |mime=>
  simp only at h⊢;split at h
  · cases h
  · rename_i h3
    exact⟨hr,rfl,Znh (by simpa using h3)⟩
 |desc=>
  simp only at h⊢;split at h
  · cases h
  · rename_i h3
    split at h
    · rename_i h4
      have hz:=Znh (t:=p.text) (by simpa using h3);refine⟨hr,Zm6 v h4 fb det,?_⟩;rcases Zf3 v with e|e
      · rw [e];exact hz
      · rw [e];exact Zsr h4 hz
    · cases h
 |text=>
  simp only at h⊢;split at h
  · rename_i h4
    exact⟨hr,Zm6 v h4 fb det⟩
  · cases h
 |data=>exact⟨hr,rfl⟩
theorem Zmh {v:Nat} (fb:Nat)(det:Bool):∀(ls:List Lt) (ps:List Pi) (i:Nat),ckL ls ps i=(0,0)→∀q∈ZbI v ls ps,Zeb (Zo v) (enX (Zo v)) (wdF fb det (Zo v)) q
 |[],[],_,_=>by intro q hq;cases hq
 |[],_::_,_,h=>by simp [ckL] at h
 |_::_,[],_,h=>by simp [ckL] at h
 |l::ls,p::ps,i,h=>by
  rw [ckL] at h;by_cases hw:Zh l p=0
  · rw [if_neg (by simpa using hw)] at h;intro q hq;rw [ZbI] at hq;rcases List.mem_cons.1 hq with rfl|hq
    · exact pt_ok hw fb det
    · exact Zmh fb det ls ps (i+1) h q hq
  · rw [if_pos hw] at h;simp only [Prod.mk.injEq] at h;exact absurd h.1 hw
def ZaV (a b:List Pi):Prop:=a.map (fun p=>(p.raw,p.text))=b.map (fun p=>(p.raw,p.text))
theorem Zmi {v:Nat}:∀(ls:List Lt) (ps:List Pi) (i:Nat),ckL ls ps i=(0,0)→ZaV ((ZbI v ls ps).map ZcB) ps
 |[],[],_,_=>rfl
 |[],_::_,_,h=>by simp [ckL] at h
 |_::_,[],_,h=>by simp [ckL] at h
 |l::ls,p::ps,i,h=>by
  rw [ckL] at h;by_cases hw:Zh l p=0
  · rw [if_neg (by simpa using hw)] at h;have ih:=Zmi (v:=v) ls ps (i+1) h;unfold ZaV at ih⊢;rw [ZbI,List.map_cons,List.map_cons,ih,List.map_cons];rfl
  · rw [if_pos hw] at h;simp only [Prod.mk.injEq] at h;exact absurd h.1 hw
theorem ZaV.ck {ls:List Lt}:∀{a b:List Pi} {i:Nat},ZaV a b→ckL ls a i=ckL ls b i:=by
 induction ls with
 |nil=>
  intro a b i h
  match a,b,h with
  |[],[],_=>rfl
  |_::_,_::_,_=>rfl
  |[],_::_,h=>cases h
  |_::_,[],h=>cases h
 |cons l ls ih=>
  intro a b i h
  match a,b,h with
  |[],[],_=>rfl
  |[],_::_,h=>cases h
  |_::_,[],h=>cases h
  |p::a,q::b,h=>
   unfold ZaV at h;simp only [List.map_cons,List.cons.injEq,Prod.mk.injEq] at h;have hw:Zh l p=Zh l q:=by unfold Zh;rw [h.1.1,h.1.2]
   rw [ckL,ckL,hw,ih h.2]
theorem ZaV.pr {e:Nat} {ls:List Lt}:∀{a b:List Pi},ZaV a b→prL e ls a=prL e ls b:=by
 induction ls with
 |nil=>intro a b h;rfl
 |cons l ls ih=>
  intro a b h
  match a,b,h with
  |[],[],_=>rfl
  |[],_::_,h=>cases h
  |_::_,[],h=>cases h
  |p::a,q::b,h=>
   unfold ZaV at h;simp only [List.map_cons,List.cons.injEq,Prod.mk.injEq] at h;have hw:enP e p=enP e q:=by unfold enP;rw [h.1.1,h.1.2]
   rw [prL,prL,hw,ih h.2]
theorem Zrz {ls:List Lt} (h:ls≠[]):ZcW ls=ls:=by unfold ZcW;rw [if_neg h]
theorem Zkj {f g:Fr} (h:clr f=clr g):f={g with at_:=f.at_}:=by
 obtain⟨i,s,m,g1,b,a⟩:=f;obtain⟨i2,s2,m2,g2,b2,a2⟩:=g;simp only [clr,Fr.mk.injEq] at h⊢;exact⟨h.1,h.2.1,h.2.2.1,h.2.2.2.1,h.2.2.2.2.1,trivial⟩
theorem Zrs {v:Nat} {x:It} {f f':Fr} (hw:ZP v x.f x.ps=some f)(hc:clr f'=clr f)(fb:Nat)(det:Bool):
 ∃y,ZcU (wdF fb det) v f'=some y∧y.f={x.f with at_:=f'.at_}∧ZaV y.ps x.ps∧ZP v y.f y.ps=some f':=by
 have hf:=Zkj hc;unfold ZP at hw;by_cases h0:Zd v x.f.id=[]
 · rw [if_pos h0] at hw;split at hw
   · rename_i hp
     injection hw with hw
     subst hw;have hid:f'.id=x.f.id:=by rw [hf]
     refine⟨⟨f',[]⟩,?_,hf,by rw [hp];rfl,?_⟩
     · unfold ZcU;rw [hid,if_pos h0]
     · unfold ZP;rw [hid,if_pos h0,if_pos rfl]
   · cases hw
 · rw [if_neg h0] at hw;split at hw
   · cases hw
   · rename_i hck
     have hck0:Zaj v x.f.id x.ps=(0,0):=Classical.not_not.1 hck;split at hw
     · cases hw
     · rename_i hbl
       obtain⟨hb,hl⟩:=not_or.1 hbl;have hb0:x.f.body=[]:=Classical.not_not.1 hb;injection hw with hw
       subst hw;have hid:f'.id=x.f.id:=by rw [hf]
       have hfm:f'.fm=x.f.fm:=by rw [hf]
       have hbd:f'.body=UInt8.ofNat (Zo v)::prL (Zo v) (Zd v x.f.id) x.ps:=by rw [hf]
       have hck1:ckL (Zd v x.f.id) x.ps 0=(0,0):=by
        unfold Zaj at hck0
        rwa [Zrz h0] at hck0
       have hfp:Zcf (wdF fb det) v x.f.id f'.body= .ok (ZbI v (Zd v x.f.id) x.ps):=by
        have h:=ZqE enX (wdF fb det) v x.f.id (ZbI v (Zd v x.f.id) x.ps) (pts_l _ _ 0 hck1) h0 (Zmh fb det _ _ 0 hck1);rw [←h];congr 1
        unfold ZhI;rw [if_neg h0,hbd,Zmg (Zf3 v) _ _ 0 hck1]
       have hsame:ZaV ((ZbI v (Zd v x.f.id) x.ps).map ZcB) x.ps:=Zmi _ _ 0 hck1;refine⟨⟨{f' with body:=[]},(ZbI v (Zd v x.f.id) x.ps).map ZcB⟩,?_,?_,hsame,?_⟩
       · unfold ZcU;rw [hid,if_neg h0,hfm,if_neg hl,hfp]
       · show({f' with body:=[]}:Fr)=_
         rw [hf,←hb0]
       · unfold ZP;show(if Zd v f'.id=[] then _ else if Zaj v f'.id _≠(0,0) then _ else if([]:List UInt8)≠[]∨ZJ v f'.fm=true then _ else some {f' with body:=UInt8.ofNat (Zo v)::prL (Zo v) (Zd v f'.id) _})=_
         rw [hid,if_neg h0,hfm];have h1:Zaj v x.f.id ((ZbI v (Zd v x.f.id) x.ps).map ZcB)=(0,0):=by
          unfold Zaj at hck0⊢;rw [ZaV.ck hsame];exact hck0
         rw [if_neg (by rw [h1];simp),if_neg (by simpa using hl),ZaV.pr hsame,←hbd,←hid,←hfm]
structure ItB (x:It):Prop where
 id:x.f.id.length≤20
 body:x.f.body.length≤200
 n:x.ps.length≤8
 text:∀p∈x.ps,p.text.length≤150
theorem Zqx (t:List UInt8):(enU t).length≤4*t.length+2:=by
 unfold enU;rcases Zdx t with⟨ps,h,e⟩|⟨n,h,e⟩
 · rw [e];have h1:ps.length≤(B t).size:=h.len;have h2:=(Zfg false ps).2;rw [Zl] at h1;show([255,254]++Zr false ps).length≤_
   simp only [List.length_append,List.length_cons,List.length_nil];omega
 · rw [e];simp
theorem Zl8 (e n:Nat):∀(ls:List Lt) (ps:List Pi),(∀p∈ps,p.text.length≤n)→(prL e ls ps).length≤(4*n+4)*ps.length
 |[],[],_=>by simp [prL]
 |[],_::_,_=>by simp [prL]
 |_::_,[],_=>by simp [prL]
 |l::ls,p::ps,h=>by
  have ih:=Zl8 e n ls ps fun q hq=>h q (List.mem_cons_of_mem _ hq);have hp:=h p (List.mem_cons_self ..);have h1:(enP e p).length≤4*n+2:=by
   unfold enP enT;have:=Zqx p.text;split
   · omega
   · split<;>omega
  have h2:(tlP e l).length≤2:=by
   unfold tlP Zas;cases l<;>simp<;>split<;>omega
  rw [prL,List.length_append,List.length_append,List.length_cons,Nat.mul_succ];omega
theorem Zm8 {v:Nat} {x:It} {f:Fr} (hb:ItB x)(h:ZP v x.f x.ps=some f):f.id.length≤20∧f.body.length≤10000:=by
 refine⟨by rw [ZiM h];exact hb.id,?_⟩;unfold ZP at h;have hp:=Zl8 (Zo v) 150 (Zd v x.f.id) x.ps hb.text;have hn:=hb.n;have h3:(4*150+4)*x.ps.length≤(4*150+4)*8:=Nat.mul_le_mul_left _ hn;have hbd:=hb.body
 (repeat' split at h)<;>first
  |(cases h;done)
  |(injection h with h;rw [←h];first|(simp only [List.length_cons];omega)|omega)
theorem ZhN {v:Nat} {its:List It} (hb:∀x∈its,ItB x):∀f∈Z0 v its,f.id.length≤20∧f.body.length≤10000:=by
 intro f hf;obtain⟨x,hx,rfl⟩:=List.mem_map.1 hf;cases hw:ZP v x.f x.ps with
 |none=>exact⟨(hb x hx).id,Nat.le_trans (hb x hx).body (by decide)⟩
 |some g=>exact Zm8 (hb x hx) hw
theorem Zro (v:Nat)(f:Fr):(Zg v f).length≤5+2*f.body.length:=by
 have:=ZdX f.body;have:=Zdh f.body;simp only [Zg,List.length_append];split<;>split<;>split<;>simp [ZO]<;>omega
theorem Zii {v:Nat} {f:Fr} (h:f.id.length≤20∧f.body.length≤10000):(Zg v f).length≤20005∧(Zt v f).length≤20100:=by
 have h1:=Zro v f;have h3:∀n,(ZL v n).length≤4:=by
  intro n;unfold ZL;split
  · rw [ZdK];omega
  · split
    · rw [ZdK];omega
    · simp [ZO]
 have h4:(Zab v f).length≤2:=by unfold Zab;split<;>simp
 have h5:=h3 (Zg v f).length;refine⟨by omega,?_⟩;simp only [Zt,List.length_append];omega
theorem ZjP {v:Nat}:∀fs:List Fr,(∀f∈fs,f.id.length≤20∧f.body.length≤10000)→((fs.map (Zt v)).flatten).length≤20100*fs.length
 |[],_=>by simp
 |f::fs,h=>by
  have ih:=ZjP (v:=v) fs fun g hg=>h g (List.mem_cons_of_mem _ hg);have:=(Zii (v:=v) (h f (List.mem_cons_self ..))).2;rw [List.map_cons,List.flatten_cons,List.length_append,List.length_cons,Nat.mul_succ];omega
theorem Zhp {v:Nat} {rev fl:UInt8} {fs:List Fr} (h:∀f∈fs,f.id.length≤20∧f.body.length≤10000)(hn:fs.length≤10):((fs.map (Zt v)).flatten).length≤201000∧(ZU ⟨v,rev,fl,fs⟩).length≤402000:=by
 have h1:=ZjP (v:=v) fs h;have h2:=Zj7 v rev fl fs;have h3:20100*fs.length≤20100*10:=Nat.mul_le_mul_left _ hn;omega
theorem Zmd {v:Nat} {rev fl:UInt8} {fs:List Fr} (h:∀f∈fs,f.id.length≤20∧f.body.length≤10000)(hn:fs.length≤10):(ZaS ⟨v,rev,fl,fs⟩).length≤410000:=by
 have h2:=(Zhp (v:=v) (rev:=rev) (fl:=fl) h hn).2;have h3:(Zdt ⟨v,rev,fl,fs⟩).length=7:=rfl;unfold ZaS;simp only [List.length_append,h3];split<;>simp only [List.length_append,h3,List.length_nil,ZB,ZaZ,List.length_cons]<;>omega
theorem Znc:∀l:List UInt8,Zal l=l.length→l.all Zct=true
 |[],_=>rfl
 |x::r,h=>by
  unfold Zal at h;split at h
  · rename_i hx
    rw [List.all_cons,hx,Znc r (by simp only [List.length_cons] at h;omega)];rfl
  · simp only [List.length_cons] at h;omega
theorem ZtX:∀n,n<256→(UInt8.ofNat n&&&2==0)=false→(UInt8.ofNat n|||2)=UInt8.ofNat n:=by decide+kernel
theorem ZqV {v:Nat} {f:Fr} (h:okF v f=true)(hl:f.id.length≤20∧f.body.length≤10000):FrOk v f:=by
 unfold okF Zc1 wfF wgF at h;simp only [Bool.and_eq_true,decide_eq_true_eq,beq_iff_eq,Bool.not_eq_true'] at h;obtain⟨⟨h1,h2,h3⟩,h4,h5⟩:=h;have hi:=(Zii (v:=v) hl).1;refine⟨?_,h2,Znc _ (by omega),?_,?_,by omega,fun _=>by omega⟩
 · unfold Zx at h1;split at h1
   · omega
   · split at h1<;>omega
 · rintro rfl;rw [Bool.and_eq_false_iff] at h4;rcases h4 with h4|h4
   · exact absurd h4 (by decide)
   · simpa using h4
 · intro hg;rw [hg] at h5;simpa using h5
theorem ZtG {v:Nat} {rev fl:UInt8} {fs:List Fr} (h:Z5 v rev fl fs=(0,0))(hl:∀f∈fs,f.id.length≤20∧f.body.length≤10000)(hn:fs.length≤10):TgOk ⟨v,rev,fl,fs⟩:=by
 obtain⟨h1,h2,h3⟩:=Zhu h;have hv:=ZiR (v:=(v:Int)) (by rw [Int.toNat_natCast];exact h1);unfold ZbA at h1;simp only [Bool.or_eq_false_iff] at h1;have hb:=(Zhp (v:=v) (rev:=rev) (fl:=fl) hl hn).2;refine⟨by show v=2∨v=3∨v=4;omega,?_,?_,fun f hf=>⟨ZqV (Zj1 (h2 f hf)) (hl f hf),?_⟩,by show fs.length≤4096;omega,by show(ZU ⟨v,rev,fl,fs⟩).length<268435456;omega⟩
 · have:=h1.2.1;simpa using this
 · have:=h1.2.2;simpa using this
 · intro hv4 hs;have hb2:=h2 f hf;unfold Zag at hb2;simp only [Bool.or_eq_false_iff] at hb2;have h5:=hb2.2;rw [show(v==4)=true from by simpa using hv4,show ZG fl=true from hs] at h5;have:=ZtX f.fm.toNat f.fm.toNat_lt;rw [UInt8.ofNat_toNat] at this;exact this (by simpa using h5)
theorem Zpy (v:Nat)(fl:UInt8):Zag v fl=Zag v fl∘clr:=by
 funext f
 rfl
theorem ZpO {v:Nat} {rev fl:UInt8} {a b:List Fr} (h:a.map clr=b.map clr):Z5 v rev fl a=Z5 v rev fl b:=by
 have hl:a.length=b.length:=by have:=congrArg List.length h;simpa using this
 have hf:∀l:List Fr,l.findIdx? (Zag v fl)=(l.map clr).findIdx? (Zag v fl):=fun l=>by
  rw [List.findIdx?_map,←Zpy]
 unfold Z5;rw [hf a,hf b,h,hl]
theorem ZsE {v:Nat} {a b:List Fr} (h:a.map clr=b.map clr):a.map (Zt v)=b.map (Zt v):=by
 have hf:∀l:List Fr,l.map (Zt v)=(l.map clr).map (Zt v):=fun l=>by
  rw [List.map_map];rfl
 rw [hf a,hf b,h]
theorem ZsD {v:Nat} {rev fl:UInt8} {a b:List Fr} (h:a.map clr=b.map clr):ZaS ⟨v,rev,fl,a⟩=ZaS ⟨v,rev,fl,b⟩:=by
 have hb:ZU ⟨v,rev,fl,a⟩=ZU ⟨v,rev,fl,b⟩:=by
  unfold ZU Zcc;rw [show(Tg.mk v rev fl a).fs.map (Zt (Tg.mk v rev fl a).v)=a.map (Zt v) from rfl,ZsE h]
 unfold ZaS Zdt;rw [hb]
def Ze0 (x y:It):Prop:=y.f={x.f with at_:=y.f.at_}∧ZaV y.ps x.ps
structure TrBack (v:Nat)(rev fl:UInt8)(its:List It)(sound s:List UInt8)(fb:Nat)(det:Bool)(l:List Fr)(its2:List It):Prop where
 parse:Zbf s= .ok (some ⟨v,rev,fl,l⟩,sound)∨(Zbf s= .ok (none,sound)∧v=0∧rev=0∧fl=0∧l=[])
 len:l.length=its.length
 small:∀f∈l,f.id.length≤20∧f.body.length≤10000
 items:its2.length=l.length∧∀(k:Nat) (f:Fr) (it:It),l[k]? =some f→its2[k]? =some it→ZcU (wdF fb det) v f=some it
 same:∀(k:Nat) (x y:It),its[k]? =some x→its2[k]? =some y→Ze0 x y
 whole:∀(k:Nat) (f:Fr) (y:It),l[k]? =some f→its2[k]? =some y→ZP v y.f y.ps=some f
 again:ZaF v rev fl its2 sound=some s
 ver:v≤4
theorem Zsv {s:List UInt8} (h:s.take 3≠ZB):Zbf s= .ok (none,s):=by
 unfold Zbf;rw [if_pos h]
theorem ZtV {v:Int} {rev fl:UInt8} {its:List It} {sound s:List UInt8} (h:ZaF v rev fl its sound=some s)(hb:∀x∈its,ItB x)(hn:its.length≤10)(fb:Nat)(det:Bool):
 ∃(n:Nat) (l:List Fr) (its2:List It),v=n∧TrBack n rev fl its sound s fb det l its2:=by
 by_cases hv:v=0
 · subst hv;have h0:=h;unfold ZaF at h;rw [if_pos rfl] at h;split at h
   · cases h
   · rename_i hc
     injection h with h
     subst h;simp only [not_or,Classical.not_not] at hc;obtain⟨h1,h2,h3,h4⟩:=hc;subst h1 h2 h3;exact⟨0,[],[],rfl,.inr ⟨Zsv h4,rfl,rfl,rfl,rfl⟩,rfl,by simp,⟨rfl,by simp⟩,by simp,by simp,h0,by decide⟩
 · have h0:=h;unfold ZaF at h;rw [if_neg hv] at h;split at h
   · cases h
   · rename_i hall
     have hall1:its.all (fun x=>(ZP v.toNat x.f x.ps).isSome)=true:=(Bool.not_eq_false _).mp hall;unfold prR at h;split at h
     · cases h
     · rename_i hck
       have hck0:Z5 v.toNat rev fl (Z0 v.toNat its)=(0,0):=Classical.not_not.1 hck;have hver:=ZiR (Zhu hck0).1;obtain⟨n,rfl⟩:∃n:Nat,v=n:=⟨v.toNat,by omega⟩
       rw [Int.toNat_natCast] at*;injection h with h
       subst h;have hfl:(Z0 n its).length=its.length:=by unfold Z0;rw [List.length_map]
       have hfs:=ZhN (v:=n) hb;have htg:=ZtG hck0 hfs (by omega);obtain⟨l,hp,hcl⟩:=ZtE ⟨n,rev,fl,Z0 n its⟩ htg sound;have hcl2:l.map clr=(Z0 n its).map clr:=hcl;have hll:l.length=(Z0 n its).length:=by have:=congrArg List.length hcl2;simpa using this
       have hat:∀(k:Nat) (f':Fr) (x:It),l[k]? =some f'→its[k]? =some x→∃f,ZP n x.f x.ps=some f∧clr f'=clr f:=by
        intro k f' x hk hx;have hs:=List.all_eq_true.1 hall1 x (List.mem_of_getElem? hx);obtain⟨f,hf⟩:=Option.isSome_iff_exists.1 hs;refine⟨f,hf,?_⟩;have h1:=congrArg (·[k]?) hcl2;simp only [List.getElem?_map,hk,ZhM hx hf,Option.map_some,Option.some.injEq] at h1;exact h1
       have hsm:∀f∈l,f.id.length≤20∧f.body.length≤10000:=by
        intro f hf;obtain⟨k,hk⟩:=List.getElem?_of_mem hf;obtain⟨x,hx⟩:∃x,its[k]? =some x:=⟨_,List.getElem?_eq_getElem (by have:=(List.getElem?_eq_some_iff.1 hk).1;omega)⟩
        obtain⟨g,hg,hc⟩:=hat k f x hk hx;have h1:=Zm8 (hb x (List.mem_of_getElem? hx)) hg;rw [Zkj hc];exact h1
       obtain⟨its2,hits2⟩:∃its2:List It,its2=l.map fun f=>(ZcU (wdF fb det) n f).getD ⟨f,[]⟩:=⟨_,rfl⟩
       have hit:∀(k:Nat) (f:Fr) (x:It),l[k]? =some f→its[k]? =some x→∃y,its2[k]? =some y∧ZcU (wdF fb det) n f=some y∧Ze0 x y∧ZP n y.f y.ps=some f:=by
        intro k f x hk hx;obtain⟨g,hg,hc⟩:=hat k f x hk hx;obtain⟨y,h1,h2,h3,h4⟩:=Zrs hg hc fb det;refine⟨y,?_,h1,⟨?_,h3⟩,h4⟩
        · rw [hits2,List.getElem?_map,hk,Option.map_some,h1];rfl
        · rw [h2]
       have hlen2:its2.length=l.length:=by rw [hits2,List.length_map]
       clear hits2;have hfs2:Z0 n its2=l:=by
        apply List.ext_getElem?
        intro k;by_cases hk:k<l.length
        · obtain⟨f,hf⟩:∃f,l[k]? =some f:=⟨_,List.getElem?_eq_getElem hk⟩
          obtain⟨x,hx⟩:∃x,its[k]? =some x:=⟨_,List.getElem?_eq_getElem (by omega)⟩
          obtain⟨y,h1,_,_,h4⟩:=hit k f x hf hx;rw [ZhM h1 h4,hf]
        · rw [List.getElem?_eq_none (by unfold Z0;rw [List.length_map];omega),List.getElem?_eq_none (by omega)]
       refine⟨n,l,its2,rfl,.inl hp,by omega,hsm,⟨hlen2,?_⟩,?_,?_,?_,by omega⟩
       · intro k f it hk hi;obtain⟨x,hx⟩:∃x,its[k]? =some x:=⟨_,List.getElem?_eq_getElem (by have:=(List.getElem?_eq_some_iff.1 hk).1;omega)⟩
         obtain⟨y,h1,h2,_⟩:=hit k f x hk hx;rw [h1] at hi;have hi:=Option.some.inj hi;rw [←hi];exact h2
       · intro k x y hx hy;obtain⟨f,hf⟩:∃f,l[k]? =some f:=⟨_,List.getElem?_eq_getElem (by have:=(List.getElem?_eq_some_iff.1 hy).1;omega)⟩
         obtain⟨z,h1,_,h3,_⟩:=hit k f x hf hx;rw [h1] at hy;have hy:=Option.some.inj hy;rw [←hy];exact h3
       · intro k f y hk hy;obtain⟨x,hx⟩:∃x,its[k]? =some x:=⟨_,List.getElem?_eq_getElem (by have:=(List.getElem?_eq_some_iff.1 hk).1;omega)⟩
         obtain⟨z,h1,_,_,h4⟩:=hit k f x hk hx;rw [h1] at hy;have hy:=Option.some.inj hy;rw [←hy];exact h4
       · unfold ZaF;rw [if_neg hv,Int.toNat_natCast];have hall2:its2.all (fun x=>(ZP n x.f x.ps).isSome)=true:=by
          rw [List.all_eq_true];intro y hy;obtain⟨k,hk⟩:=List.getElem?_of_mem hy;obtain⟨f,hf⟩:∃f,l[k]? =some f:=⟨_,List.getElem?_eq_getElem (by have:=(List.getElem?_eq_some_iff.1 hk).1;omega)⟩
          obtain⟨x,hx⟩:∃x,its[k]? =some x:=⟨_,List.getElem?_eq_getElem (by have:=(List.getElem?_eq_some_iff.1 hk).1;omega)⟩
          obtain⟨z,h1,_,_,h4⟩:=hit k f x hf hx;rw [h1] at hk;have hk:=Option.some.inj hk;rw [←hk,h4];rfl
         rw [hall2,if_neg (by decide),hfs2];unfold prR;rw [Int.toNat_natCast,ZpO hcl2,if_neg hck,ZsD hcl2];rfl
end Go.Proofs.YtecandjkbbpooaaGreatDoor
namespace Go.Proofs.YtecandjkbbpooaaGreatDoor
open Go Go.RowKit Go.ChangeShapes Go.WideShapes Go.Deep
theorem Zfv {z:Int} (h:(Lit.int .u8 z).wf=true):∃x:UInt8,(x.toNat:Int)=z:=by
 simp only [Lit.wf,Bool.and_eq_true,decide_eq_true_eq] at h;have h1:(0:Int)≤z:=h.1;have h2:z≤(255:Int):=h.2;exact⟨UInt8.ofNat z.toNat,by rw [UInt8.toNat_ofNat',Nat.mod_eq_of_lt (by omega)];omega⟩
section
variable {H:Type} {enc:TypeId×Value→H} {w:World} {base:Nat} {spare:Nat→Bool} {held:Bool}
theorem Zsc {fuel:Nat} {cs:List Value} {x:DataW H×List MemPlace} (h:DataW.trod enc Tryz.prog w base spare held fuel 39 cs=some x):∃p:Pi,cs=piL p:=by
 obtain⟨xs,n,_,_,hl,hxl,hg⟩:=DataW.trod_struct Tryz.underlying39 h;have hC:Tryz.prog.cellsOf 39=4:=by kernel_rfl
 rw [hC] at hl;have o0:Tryz.prog.cellsOf 9=1:=by kernel_rfl
 have o1:Tryz.prog.cellsOf 4=1:=by kernel_rfl
 have o3:Tryz.prog.cellsOf 26=1:=by kernel_rfl
 have hx:∀j,j<4→∃y,xs[j]? =some y:=fun j hj=>⟨_,List.getElem?_eq_getElem (by rw [hxl];exact hj)⟩
 obtain⟨y0,e0⟩:=hx 0 (by omega);obtain⟨y1,e1⟩:=hx 1 (by omega);obtain⟨y2,e2⟩:=hx 2 (by omega);obtain⟨y3,e3⟩:=hx 3 (by omega);have g0:=hg 0 _ rfl;have g1:=hg 1 _ rfl;have g2:=hg 2 _ rfl;have g3:=hg 3 _ rfl;rw [e0] at g0;rw [e1] at g1;rw [e2] at g2;rw [e3] at g3
 match cs,hl with
 |[c0,c1,c2,c3],_=>
  change DataW.trod enc Tryz.prog w base spare held n 9 ((([c0,c1,c2,c3]:List Value).drop 0).take (Tryz.prog.cellsOf 9))=some y0 at g0
  rw [o0] at g0;change DataW.trod enc Tryz.prog w base spare held n 9 [c0]=some y0 at g0
  change DataW.trod enc Tryz.prog w base spare held n 4 ((([c0,c1,c2,c3]:List Value).drop 1).take (Tryz.prog.cellsOf 4))=some y1 at g1
  rw [o1] at g1;change DataW.trod enc Tryz.prog w base spare held n 4 [c1]=some y1 at g1
  change DataW.trod enc Tryz.prog w base spare held n 9 ((([c0,c1,c2,c3]:List Value).drop 2).take (Tryz.prog.cellsOf 9))=some y2 at g2
  rw [o0] at g2;change DataW.trod enc Tryz.prog w base spare held n 9 [c2]=some y2 at g2
  change DataW.trod enc Tryz.prog w base spare held n 26 ((([c0,c1,c2,c3]:List Value).drop 3).take (Tryz.prog.cellsOf 26))=some y3 at g3
  rw [o3] at g3;change DataW.trod enc Tryz.prog w base spare held n 26 [c3]=some y3 at g3
  obtain⟨s0,d0,_,_⟩:=DataW.trod_string Tryz.underlying9 g0;obtain⟨b1,d1,_⟩:=DataW.trod_bool Tryz.underlying4 g1;obtain⟨s2,d2,_,_⟩:=DataW.trod_string Tryz.underlying9 g2;obtain⟨z3,d3,_,_⟩:=DataW.trod_int Tryz.underlying26 g3;injection d0 with d0
  injection d1 with d1
  injection d2 with d2
  injection d3 with d3
  subst d0 d1 d2 d3;refine⟨⟨s0,b1,s2.data.toList,z3⟩,?_⟩;unfold piL;rw [←Zd6 s2]
theorem Zsd {fuel:Nat} {cs:List Value} {x:DataW H×List MemPlace} (h:DataW.trod enc Tryz.prog w base spare held fuel 35 cs=some x):
 ∃(A:Option Addr) (c:Nat) (l:List Pi),cs=[.slice A l.length c]∧RdN 4 piL w w.heap.size A l:=by
 have hC:Tryz.prog.cellsOf 39=4:=by kernel_rfl
 rcases open_slice Tryz.underlying35 h with⟨hc,_⟩|⟨a,len,cap,m,n,D,Pl,hc,_,hle,hcm,hm,_,hall⟩
 · exact⟨none,0,[],hc,Reads.none_⟩
 · have hlm:len≤m:=by rw [hm];split<;>omega
   rw [hC] at hall;obtain⟨l,hl,hR⟩:=Zhi (R:=fun i (p:Pi)=>∀j,j<4→w.cell? (a.add (i*4+j))=(piL p)[j]?) len fun i hi=>by
    obtain⟨cs',h1,h2⟩:=hall i (by omega);obtain⟨_,h3,h4⟩:=World.cells?_some h1;obtain⟨p,rfl⟩:=Zsc h2;refine⟨p,fun j hj=> ?_⟩;have h5:=h4 j hj;rw [Go.Deep.add_add] at h5;rw [h5]
   subst hl;exact⟨some a,cap,l,hc,Zmo 4 piL Zfm (by omega) hR⟩
theorem Zr9 {fuel:Nat} {cs:List Value} {x:DataW H×List MemPlace} (h:DataW.trod enc Tryz.prog w base spare held fuel 23 cs=some x):∃(v:Int) (rev fl:UInt8),cs=[.int .i64 v,.int .u8 rev.toNat,.int .u8 fl.toNat]:=by
 obtain⟨xs,n,_,_,hl,hxl,hg⟩:=DataW.trod_struct Tryz.underlying23 h;have hC:Tryz.prog.cellsOf 23=3:=by kernel_rfl
 rw [hC] at hl;have o0:Tryz.prog.cellsOf 3=1:=by kernel_rfl
 have o1:Tryz.prog.cellsOf 5=1:=by kernel_rfl
 have hx:∀j,j<3→∃y,xs[j]? =some y:=fun j hj=>⟨_,List.getElem?_eq_getElem (by rw [hxl];exact hj)⟩
 obtain⟨y0,e0⟩:=hx 0 (by omega);obtain⟨y1,e1⟩:=hx 1 (by omega);obtain⟨y2,e2⟩:=hx 2 (by omega);have g0:=hg 0 _ rfl;have g1:=hg 1 _ rfl;have g2:=hg 2 _ rfl;rw [e0] at g0;rw [e1] at g1;rw [e2] at g2
 match cs,hl with
 |[c0,c1,c2],_=>
  change DataW.trod enc Tryz.prog w base spare held n 3 ((([c0,c1,c2]:List Value).drop 0).take (Tryz.prog.cellsOf 3))=some y0 at g0
  rw [o0] at g0;change DataW.trod enc Tryz.prog w base spare held n 3 [c0]=some y0 at g0
  change DataW.trod enc Tryz.prog w base spare held n 5 ((([c0,c1,c2]:List Value).drop 1).take (Tryz.prog.cellsOf 5))=some y1 at g1
  rw [o1] at g1;change DataW.trod enc Tryz.prog w base spare held n 5 [c1]=some y1 at g1
  change DataW.trod enc Tryz.prog w base spare held n 5 ((([c0,c1,c2]:List Value).drop 2).take (Tryz.prog.cellsOf 5))=some y2 at g2
  rw [o1] at g2;change DataW.trod enc Tryz.prog w base spare held n 5 [c2]=some y2 at g2
  obtain⟨z0,d0,_,_⟩:=DataW.trod_int Tryz.underlying3 g0;obtain⟨z1,d1,_,f1⟩:=DataW.trod_int Tryz.underlying5 g1;obtain⟨z2,d2,_,f2⟩:=DataW.trod_int Tryz.underlying5 g2;injection d0 with d0
  injection d1 with d1
  injection d2 with d2
  obtain⟨u1,rfl⟩:=Zfv f1;obtain⟨u2,rfl⟩:=Zfv f2;subst d0 d1 d2;exact⟨z0,u1,u2,rfl⟩
theorem Zr8 {fuel:Nat} {cs:List Value} {x:DataW H×List MemPlace} (h:DataW.trod enc Tryz.prog w base spare held fuel 32 cs=some x):∃(s:ByteArray) (a b:UInt8),cs=[.string s,.int .u8 a.toNat,.int .u8 b.toNat]:=by
 obtain⟨xs,n,_,_,hl,hxl,hg⟩:=DataW.trod_struct Tryz.underlying32 h;have hC:Tryz.prog.cellsOf 32=3:=by kernel_rfl
 rw [hC] at hl;have o0:Tryz.prog.cellsOf 9=1:=by kernel_rfl
 have o1:Tryz.prog.cellsOf 5=1:=by kernel_rfl
 have hx:∀j,j<3→∃y,xs[j]? =some y:=fun j hj=>⟨_,List.getElem?_eq_getElem (by rw [hxl];exact hj)⟩
 obtain⟨y0,e0⟩:=hx 0 (by omega);obtain⟨y1,e1⟩:=hx 1 (by omega);obtain⟨y2,e2⟩:=hx 2 (by omega);have g0:=hg 0 _ rfl;have g1:=hg 1 _ rfl;have g2:=hg 2 _ rfl;rw [e0] at g0;rw [e1] at g1;rw [e2] at g2
 match cs,hl with
 |[c0,c1,c2],_=>
  change DataW.trod enc Tryz.prog w base spare held n 9 ((([c0,c1,c2]:List Value).drop 0).take (Tryz.prog.cellsOf 9))=some y0 at g0
  rw [o0] at g0;change DataW.trod enc Tryz.prog w base spare held n 9 [c0]=some y0 at g0
  change DataW.trod enc Tryz.prog w base spare held n 5 ((([c0,c1,c2]:List Value).drop 1).take (Tryz.prog.cellsOf 5))=some y1 at g1
  rw [o1] at g1;change DataW.trod enc Tryz.prog w base spare held n 5 [c1]=some y1 at g1
  change DataW.trod enc Tryz.prog w base spare held n 5 ((([c0,c1,c2]:List Value).drop 2).take (Tryz.prog.cellsOf 5))=some y2 at g2
  rw [o1] at g2;change DataW.trod enc Tryz.prog w base spare held n 5 [c2]=some y2 at g2
  obtain⟨z0,d0,_,_⟩:=DataW.trod_string Tryz.underlying9 g0;obtain⟨z1,d1,_,f1⟩:=DataW.trod_int Tryz.underlying5 g1;obtain⟨z2,d2,_,f2⟩:=DataW.trod_int Tryz.underlying5 g2;injection d0 with d0
  injection d1 with d1
  injection d2 with d2
  obtain⟨u1,rfl⟩:=Zfv f1;obtain⟨u2,rfl⟩:=Zfv f2;subst d0 d1 d2;exact⟨z0,u1,u2,rfl⟩
theorem Zr7 {fuel:Nat} {cs:List Value} {x:DataW H×List MemPlace} (h:DataW.trod enc Tryz.prog w base spare held fuel 34 cs=some x):∃f:Fr,cs=frV f:=by
 obtain⟨xs,n,_,_,hl,hxl,hg⟩:=DataW.trod_struct Tryz.underlying34 h;have hC:Tryz.prog.cellsOf 34=6:=by kernel_rfl
 rw [hC] at hl;have o0:Tryz.prog.cellsOf 32=3:=by kernel_rfl
 have o1:Tryz.prog.cellsOf 5=1:=by kernel_rfl
 have o2:Tryz.prog.cellsOf 9=1:=by kernel_rfl
 have o3:Tryz.prog.cellsOf 3=1:=by kernel_rfl
 have hx:∀j,j<4→∃y,xs[j]? =some y:=fun j hj=>⟨_,List.getElem?_eq_getElem (by rw [hxl];exact hj)⟩
 obtain⟨y0,e0⟩:=hx 0 (by omega);obtain⟨y1,e1⟩:=hx 1 (by omega);obtain⟨y2,e2⟩:=hx 2 (by omega);obtain⟨y3,e3⟩:=hx 3 (by omega);have g0:=hg 0 _ rfl;have g1:=hg 1 _ rfl;have g2:=hg 2 _ rfl;have g3:=hg 3 _ rfl;rw [e0] at g0;rw [e1] at g1;rw [e2] at g2;rw [e3] at g3
 match cs,hl with
 |[c0,c1,c2,c3,c4,c5],_=>
  change DataW.trod enc Tryz.prog w base spare held n 32 ((([c0,c1,c2,c3,c4,c5]:List Value).drop 0).take (Tryz.prog.cellsOf 32))=some y0 at g0
  rw [o0] at g0;change DataW.trod enc Tryz.prog w base spare held n 32 [c0,c1,c2]=some y0 at g0
  change DataW.trod enc Tryz.prog w base spare held n 5 ((([c0,c1,c2,c3,c4,c5]:List Value).drop 3).take (Tryz.prog.cellsOf 5))=some y1 at g1
  rw [o1] at g1;change DataW.trod enc Tryz.prog w base spare held n 5 [c3]=some y1 at g1
  change DataW.trod enc Tryz.prog w base spare held n 9 ((([c0,c1,c2,c3,c4,c5]:List Value).drop 4).take (Tryz.prog.cellsOf 9))=some y2 at g2
  rw [o2] at g2;change DataW.trod enc Tryz.prog w base spare held n 9 [c4]=some y2 at g2
  change DataW.trod enc Tryz.prog w base spare held n 3 ((([c0,c1,c2,c3,c4,c5]:List Value).drop 5).take (Tryz.prog.cellsOf 3))=some y3 at g3
  rw [o3] at g3;change DataW.trod enc Tryz.prog w base spare held n 3 [c5]=some y3 at g3
  obtain⟨s0,u1,u2,d0⟩:=Zr8 g0;obtain⟨z3,d3,_,f3⟩:=DataW.trod_int Tryz.underlying5 g1;obtain⟨s4,d4,_,_⟩:=DataW.trod_string Tryz.underlying9 g2;obtain⟨z5,d5,_,_⟩:=DataW.trod_int Tryz.underlying3 g3;injection d0 with d0 d1
  injection d1 with d1 d2
  injection d2 with d2
  injection d3 with d3
  injection d4 with d4
  injection d5 with d5
  obtain⟨u3,rfl⟩:=Zfv f3;subst d0 d1 d2 d3 d4 d5;refine⟨⟨s0.data.toList,u1,u2,u3,s4.data.toList,z5⟩,?_⟩;unfold frV;rw [←Zd6 s0,←Zd6 s4]
theorem Zsa {fuel:Nat} {cs:List Value} {x:DataW H×List MemPlace} (h:DataW.trod enc Tryz.prog w base spare held fuel 24 cs=some x):
 ∃(A:Option Addr) (c:Nat) (xs:List (It×Value)),cs=[.slice A xs.length c]∧xs.length≤maxLen∧RdN 7 itV w w.heap.size A xs∧∀y∈xs,∃A c,y.2= .slice A y.1.ps.length c∧RdN 4 piL w w.heap.size A y.1.ps:=by
 have hC:Tryz.prog.cellsOf 37=7:=by kernel_rfl
 have o0:Tryz.prog.cellsOf 34=6:=by kernel_rfl
 have o1:Tryz.prog.cellsOf 35=1:=by kernel_rfl
 rcases open_slice Tryz.underlying24 h with⟨hc,_⟩|⟨a,len,cap,m,n,D,Pl,hc,_,hle,hcm,hm,_,hall⟩
 · exact⟨none,0,[],hc,by decide,Reads.none_,by simp⟩
 · have hlm:len≤m:=by rw [hm];split<;>omega
   rw [hC] at hall;obtain⟨l,hl,hR⟩:=Zhi (R:=fun i (p:It×Value)=>(∀j,j<7→w.cell? (a.add (i*7+j))=(itV p)[j]?)∧∃A c,p.2= .slice A p.1.ps.length c∧RdN 4 piL w w.heap.size A p.1.ps) len fun i hi=>by
    obtain⟨cs',h1,h2⟩:=hall i (by omega);obtain⟨_,h3,h4⟩:=World.cells?_some h1;obtain⟨y0,y1,k,_,_,g0,g1⟩:=trod_struct2 Tryz.underlying37 h2
    match cs',h3 with
    |[c0,c1,c2,c3,c4,c5,c6],_=>
     change DataW.trod enc Tryz.prog w base spare held k 34 ((([c0,c1,c2,c3,c4,c5,c6]:List Value).drop 0).take (Tryz.prog.cellsOf 34))=some y0 at g0
     rw [o0] at g0;change DataW.trod enc Tryz.prog w base spare held k 34 [c0,c1,c2,c3,c4,c5]=some y0 at g0
     change DataW.trod enc Tryz.prog w base spare held k 35 ((([c0,c1,c2,c3,c4,c5,c6]:List Value).drop 6).take (Tryz.prog.cellsOf 35))=some y1 at g1
     rw [o1] at g1;change DataW.trod enc Tryz.prog w base spare held k 35 [c6]=some y1 at g1
     obtain⟨f,hf⟩:=Zr7 g0;obtain⟨A5,c5',ps,d6,hp⟩:=Zsd g1;injection d6 with d6
     unfold frV at hf;simp only [List.cons.injEq,and_true] at hf;obtain⟨e0,e1,e2,e3,e4,e5⟩:=hf;subst e0 e1 e2 e3 e4 e5 d6;refine⟨(⟨f,ps⟩,.slice A5 ps.length c5'),fun j hj=> ?_,A5,c5',rfl,hp⟩;have h5:=h4 j hj;rw [Go.Deep.add_add] at h5;rw [h5];rfl
   subst hl;refine⟨some a,cap,l,hc,by omega,Zmo 7 itV Zfe (by omega) (fun i p hi=>(hR i p hi).1),fun y hy=> ?_⟩;obtain⟨i,hi⟩:=List.getElem?_of_mem hy;exact(hR i y hi).2
end
end Go.Proofs.YtecandjkbbpooaaGreatDoor
