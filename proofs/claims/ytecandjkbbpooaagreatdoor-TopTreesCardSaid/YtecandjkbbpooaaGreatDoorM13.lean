/- Lemmas for a statement on the tops; conditions: as each says. -/
import Derived.Laws.Bits64b
import Derived.Test.YtecandjkbbpooaaGreatDoorM12
set_option linter.unusedVariables false
set_option linter.unusedSimpArgs false
set_option maxRecDepth 100000
set_option maxHeartbeats 2000000
namespace Go.Proofs.YtecandjkbbpooaaGreatDoor
open Go
theorem Zj8 (v:Nat)(f:Fr):f.body.length≤(Zg v f).length:=by
 have:=ZdX f.body;simp only [Zg,List.length_append];split<;>split<;>split<;>simp<;>omega
theorem size_mk (v:Nat)(f:Fr)(ok:FrOk v f)(b:Nat)(p r:List UInt8):
 ZbT v (InS.mk' b p (ZL v (Zg v f).length++r))=((Zg v f).length,InS.mk' b (p++ZL v (Zg v f).length) r):=by
 have hm:=ok.many;rcases ok.ver with h|h|h
 · subst h;simp only [ZbT,ZL,if_true];rw [InS.big_mk _ _ _ _ 3 (by rw [ZdK];rfl),bigB_3 _ (ok.many2 rfl)]
 · subst h;simp only [ZbT,ZL,if_true,(by decide:¬(3=2)),if_false];rw [InS.big_mk _ _ _ _ 4 (by rw [ZdK];rfl),bigB_4 _ (by omega)]
 · subst h;simp only [ZbT,ZL,(by decide:¬(4=2)),(by decide:¬(4=3)),if_false];rw [InS.safe_mk _ _ _ _ hm]
theorem ZqM (x y:UInt8):InS.bigN [x,y]=x.toNat*256+y.toNat:=by
 have:=x.toNat_lt;have:=y.toNat_lt;simp only [InS.bigN,List.foldl];omega
theorem hi_of (x y:UInt8):UInt8.ofNat ((x.toNat*256+y.toNat) / 256)=x:=by
 have:=x.toNat_lt;have:=y.toNat_lt;rw [show(x.toNat*256+y.toNat) / 256=x.toNat by omega];simp
theorem lo_of (x y:UInt8):UInt8.ofNat (x.toNat*256+y.toNat)=y:=by
 apply UInt8.toNat_inj.mp
 have:=x.toNat_lt;have:=y.toNat_lt;rw [UInt8.toNat_ofNat'];omega
theorem ZrO (v:Nat)(f:Fr)(ok:FrOk v f)(r:List UInt8):(f.id++r).take 1≠[0]∧0<(f.id++r).length:=by
 have hn:=ok.name;have hc:=ok.caps;have h0:Zx v≠0:=by rcases ok.ver with h|h|h<;>subst h<;>decide
 match hi:f.id with
 |[]=>rw [hi] at hn;exact absurd hn.symm h0
 |x::q=>
  rw [hi] at hc;simp only [List.all_cons,Bool.and_eq_true] at hc;refine⟨fun h=> ?_,by simp⟩;simp only [List.cons_append,List.take_succ_cons,List.take_zero,List.cons.injEq,and_true] at h;rw [h] at hc;exact absurd hc.1 (by decide)
theorem ZqR (v:Nat)(f:Fr)(ok:FrOk v f)(sp:Bool)(hs:v=4→sp=true→f.fm|||2=f.fm)(b:Nat)(p r:List UInt8):
 ZaM v (InS.mk' b p (Zt v f++r)) sp=(some {f with at_:=(InS.mk' b p (Zt v f++r)).at_},InS.mk' b (p++Zt v f) r):=by
 have nm:=ZrO v f ok (ZL v (Zg v f).length++(Zab v f++Zg v f)++r);have h0:Zx v≠0:=by rcases ok.ver with h|h|h<;>subst h<;>decide
 have hp:Zt v f++r=f.id++(ZL v (Zg v f).length++(Zab v f++(Zg v f++r))):=by
  simp [Zt,List.append_assoc]
 have hq:f.id++(ZL v (Zg v f).length++(Zab v f++Zg v f)++r)=f.id++(ZL v (Zg v f).length++(Zab v f++(Zg v f++r))):=by
  simp [List.append_assoc]
 rw [hq] at nm;rw [hp];have c1:¬(Zx v=0∨(InS.mk' b p (f.id++(ZL v (Zg v f).length++(Zab v f++(Zg v f++r))))).e≠0∨
  (InS.mk' b p (f.id++(ZL v (Zg v f).length++(Zab v f++(Zg v f++r))))).left=0∨
  (InS.mk' b p (f.id++(ZL v (Zg v f).length++(Zab v f++(Zg v f++r))))).peek 1=[0]):=by
  rw [InS.left_mk,InS.peek_mk];rintro(h|h|h|h)
  · exact h0 h
  · exact h rfl
  · have:=nm.2;omega
  · exact nm.1 h
 simp only [ZaM,if_neg c1];rw [InS.take_mk' _ _ _ _ _ ok.name];simp only [Znb _ ok.caps,Nat.lt_irrefl,if_false];rw [size_mk v f ok];have fin:∀(fm:UInt8) (q:List UInt8),fm=f.fm→InS.mk' b (p++f.id++ZL v (Zg v f).length++Zab v f) (Zg v f++r)=InS.mk' b q (Zg v f++r)→
  q++Zg v f=p++Zt v f:=by
  intro fm q _ h;simp only [InS.mk',InS.mk.injEq] at h;have:=h.1;rw [List.append_cancel_right_eq] at this;rw [←this];simp [Zt,List.append_assoc]
 have tk:=InS.take_mk b (p++f.id++ZL v (Zg v f).length++Zab v f) (Zg v f) r;have fl:=ZqI v {f with at_:=(InS.mk' b p (f.id++(ZL v (Zg v f).length++(Zab v f++(Zg v f++r))))).at_}
  ((InS.mk' b (p++f.id++ZL v (Zg v f).length++Zab v f) (Zg v f++r)).at_)
  ⟨ok.ver,ok.name,ok.caps,ok.two,ok.grp,ok.many,ok.many2⟩ (by have:=Zj8 v f;have:=ok.many;simp only;omega) []
 have e1:=fin f.fm _ rfl rfl;have inn:Zg v {f with at_:=(InS.mk' b p (f.id++(ZL v (Zg v f).length++(Zab v f++(Zg v f++r))))).at_}=Zg v f:=rfl;rw [inn] at fl;have ez:∀x y,(InS.mk' b x y).e=0:=fun _ _=>rfl;by_cases h2:2<v
 · have n2:v≠2:=by omega
   have hfl:Zab v f=[f.st,f.fm]:=by simp [Zab,n2]
   have hb:=InS.big_mk b (p++f.id++ZL v (Zg v f).length) (Zab v f) (Zg v f++r) 2 (by rw [hfl];rfl);simp only [if_pos h2];rw [hb];simp only [tk,ez,ne_eq,not_true_eq_false,if_false];rw [hfl,ZqM,hi_of,lo_of,←hfl];have hor:(f.fm|||if v=4∧sp=true then 2 else 0)=f.fm:=by
    split
    · rename_i h;exact hs h.1 h.2
    · simp
   rw [hor,fl,e1]
 · have e2:v=2:=by rcases ok.ver with h|h|h<;>omega
   have hfl:Zab v f=[]:=by simp [Zab,e2]
   have ht:=ok.two e2;simp only [if_neg h2];rw [hfl] at tk fl e1⊢;simp only [List.append_nil,List.nil_append] at tk fl e1⊢;simp only [tk,ez,ne_eq,not_true_eq_false,if_false];have hz:(UInt8.ofNat 0|||if v=4∧sp=true then 2 else 0)=(0:UInt8):=by
    rw [if_neg (by omega)];rfl
   rw [hz,show UInt8.ofNat (0 / 256)=(0:UInt8) from rfl];rw [ht.1,ht.2] at fl;rw [fl,e1];simp only [ht.1,ht.2]
structure Tg where
 v:Nat
 rev:UInt8
 fl:UInt8
 fs:List Fr
def ZG (fl:UInt8):Bool:=fl&&&0x80 !=0
def ZbW (v:Nat)(fl:UInt8):Bool:=v==4&&fl&&&0x10 !=0
def ZcH (v:Nat)(fl:UInt8):Bool:=v !=4&&ZG fl
def Zbn (v:Nat):UInt8:=if v=2 then 0xC0 else if v=3 then 0xE0 else if v=4 then 0xF0 else 0
def ZdL (v:Nat):UInt8:=if v=2 then 0x80 else if v=3 then 0xA0 else if v=4 then 0xB0 else 0
def Zcc (t:Tg):List UInt8:=(t.fs.map (Zt t.v)).flatten
def ZU (t:Tg):List UInt8:=if ZcH t.v t.fl then ZR (Zcc t) else Zcc t
def Zdt (t:Tg):List UInt8:=[UInt8.ofNat t.v,t.rev,t.fl]++ZO (ZU t).length
def ZB:List UInt8:=[73,68,51]
def ZaZ:List UInt8:=[51,68,73]
def ZaS (t:Tg):List UInt8:=ZB++(Zdt t++(ZU t++(if ZbW t.v t.fl then ZaZ++Zdt t else [])))
def Zci (s:InS):(Nat×UInt8×UInt8)×InS:=
 let a:=(s.want ZB).2.big 1
 let b:=a.2.big 1
 let c:=b.2.big 1
 let v:=a.1
 let rev:=UInt8.ofNat b.1
 let fl:=UInt8.ofNat c.1
 if c.2.e≠0 then((0,0,0),c.2) else
 let s:=if Zx v=0 then c.2.fail 3 3 else c.2
 let s:=if rev=255 then s.fail 1 4 else s
 let s:=if fl&&& ~~~(Zbn v)≠0 then s.fail 1 5 else s
 let s:=if v=2∧fl&&&0x40≠0 then s.fail 3 5 else s
 ((v,rev,fl),s)
def ZcF (v:Nat)(fl:UInt8)(s:InS):InS:=
 if fl&&&0x40=0 then s else
 if v=3 then let n:=s.big 4;(n.2.take n.1).2 else
 let n:=s.safe
 let s2:=if n.1<6 then n.2.fail 1 s.at_ else n.2
 if n.1<4 then(if s2.e≠0 then s2 else s2.short) else(s2.take (n.1 - 4)).2
def Zao (v:Nat)(sp:Bool):Nat→InS→List Fr×InS
 |0,s=>match ZaM v s sp with
  |(none,s')=>([],s')
  |(some f,s')=>([],s'.fail 4 f.at_.toNat)
 |k+1,s=>match ZaM v s sp with
  |(none,s')=>([],s')
  |(some f,s')=>let p:=Zao v sp k s';(f::p.1,p.2)
def ZbE:List UInt8→Option Nat
 |[]=>none
 |x::r=>if x=0 then(ZbE r).map (· +1) else some 0
def Zcy (v:Nat)(sp:Bool)(s:InS):List Fr×InS:=
 let p:=Zao v sp 4096 s
 let q:=p.2.rest
 match ZbE q.1 with
 |none=>(p.1,q.2)
 |some i=>(p.1,q.2.fail 1 (p.2.at_+i))
def Zbf (file:List UInt8):Except (Nat×Nat) (Option Tg×List UInt8):=
 if file.take 3≠ZB then .ok (none,file) else
 let h:=Zci ⟨file,0,0,0,0⟩
 let v:=h.1.1
 let rev:=h.1.2.1
 let fl:=h.1.2.2
 let n:=h.2.safe
 let b:=n.2.take n.1
 if b.2.e≠0 then .error (b.2.e,b.2.a) else
 let body:=if ZcH v fl then ZV false b.1 else b.1
 let l:=Zcy v (ZG fl) (ZcF v fl ⟨body,0,10,0,0⟩)
 if l.2.e≠0 then .error (l.2.e,l.2.a) else
 let r:=if ZbW v fl then(((b.2.want ZaZ).2).want ((file.take 10).drop 3)).2 else b.2
 if r.e≠0 then .error (r.e,r.a) else
 .ok (some ⟨v,rev,fl&&& ~~~0x40,l.1⟩,r.rest.1)
structure TgOk (t:Tg):Prop where
 ver:t.v=2∨t.v=3∨t.v=4
 rev:t.rev≠255
 fl:t.fl&&& ~~~(ZdL t.v)=0
 fs:∀f∈t.fs,FrOk t.v f∧(t.v=4→ZG t.fl=true→f.fm|||2=f.fm)
 count:t.fs.length≤4096
 many:(ZU t).length<268435456
def clr (f:Fr):Fr:={f with at_:=0}
theorem Zsu (v:Nat)(sp:Bool)(b:Nat)(p:List UInt8):ZaM v (InS.mk' b p []) sp=(none,InS.mk' b p []):=by
 have h:Zx v=0∨(InS.mk' b p []).e≠0∨(InS.mk' b p []).left=0∨(InS.mk' b p []).peek 1=[0]:= .inr (.inr (.inl (by rw [InS.left_mk];rfl)));simp only [ZaM,if_pos h]
theorem Zlj (v:Nat)(sp:Bool):∀(fs:List Fr) (k:Nat),fs.length≤k→
 (∀f∈fs,FrOk v f∧(v=4→sp=true→f.fm|||2=f.fm))→∀(b:Nat) (p:List UInt8),
 ∃l,Zao v sp k (InS.mk' b p (fs.map (Zt v)).flatten)=(l,InS.mk' b (p++(fs.map (Zt v)).flatten) [])∧l.map clr=fs.map clr
 |[],k,_,_,b,p=>by
  refine⟨[],?_,rfl⟩;simp only [List.map_nil,List.flatten_nil,List.append_nil];cases k<;>simp only [Zao,Zsu]
 |f::fs,0,hk,_,_,_=>absurd hk (by simp)
 |f::fs,k+1,hk,hok,b,p=>by
  have hf:=hok f (by simp);obtain⟨l,hl,hc⟩:=Zlj v sp fs k (by simpa using hk) (fun g hg=>hok g (by simp [hg])) b (p++Zt v f);simp only [List.map_cons,List.flatten_cons];refine⟨{f with at_:=(InS.mk' b p (Zt v f++(fs.map (Zt v)).flatten)).at_}::l,?_,?_⟩
  · simp only [Zao,ZqR v f hf.1 sp hf.2 b p,hl,List.append_assoc]
  · simp [hc,clr]
theorem ZqT (t:Tg)(ok:TgOk t)(b:Nat)(p:List UInt8):
 ∃l,Zcy t.v (ZG t.fl) (InS.mk' b p (Zcc t))=(l,InS.mk' b (p++Zcc t) [])∧l.map clr=t.fs.map clr:=by
 obtain⟨l,hl,hc⟩:=Zlj t.v (ZG t.fl) t.fs 4096 ok.count ok.fs b p;refine⟨l,?_,hc⟩;unfold Zcc;simp only [Zcy,hl,InS.rest_mk,ZbE,List.append_nil]
theorem ZpC:∀n,n<256→∀v∈[2,3,4],(UInt8.ofNat n&&& ~~~(ZdL v))=0→
 (UInt8.ofNat n&&&0x40)=0∧(UInt8.ofNat n&&& ~~~(Zbn v))=0∧(UInt8.ofNat n&&& ~~~(0x40:UInt8))=UInt8.ofNat n:=by decide+kernel
theorem Zj6 (v:Nat)(x:UInt8)(hv:v=2∨v=3∨v=4)(h:x&&& ~~~(ZdL v)=0):
 x&&&0x40=0∧x&&& ~~~(Zbn v)=0∧x&&& ~~~(0x40:UInt8)=x:=by
 have:=ZpC x.toNat x.toNat_lt v (by rcases hv with h|h|h<;>subst h<;>simp);rw [UInt8.ofNat_toNat] at this;exact this h
theorem Zrb (t:Tg)(ok:TgOk t)(r:List UInt8):
 Zci (InS.mk' 0 [] (ZB++(([UInt8.ofNat t.v,t.rev,t.fl]:List UInt8)++r)))=((t.v,t.rev,t.fl),InS.mk' 0 (ZB++[UInt8.ofNat t.v,t.rev,t.fl]) r):=by
 have bf:=Zj6 t.v t.fl ok.ver ok.fl;have hv:(UInt8.ofNat t.v).toNat=t.v:=by rw [UInt8.toNat_ofNat'];rcases ok.ver with h|h|h<;>omega
 have l0:Zx t.v≠0:=by rcases ok.ver with h|h|h<;>rw [h]<;>decide
 have ez:∀b x y,(InS.mk' b x y).e=0:=fun _ _ _=>rfl;simp only [Zci,InS.want_mk,List.cons_append,List.nil_append,ZfW,ez,ne_eq,not_true_eq_false,if_false,hv,l0,
  UInt8.ofNat_toNat,ok.rev,bf.1,bf.2.1,and_false,List.append_assoc]
theorem ZtE (t:Tg)(ok:TgOk t)(r:List UInt8):
 ∃l,Zbf (ZaS t++r)= .ok (some ⟨t.v,t.rev,t.fl,l⟩,r)∧l.map clr=t.fs.map clr:=by
 obtain⟨l,hl,hc⟩:=ZqT t ok 10 [];refine⟨l,?_,hc⟩;have bf:=Zj6 t.v t.fl ok.ver ok.fl;have ez:∀b x y,(InS.mk' b x y).e=0:=fun _ _ _=>rfl;have hp:ZaS t++r=ZB++(([UInt8.ofNat t.v,t.rev,t.fl]:List UInt8)++(ZO (ZU t).length++(ZU t++((if ZbW t.v t.fl then ZaZ++Zdt t else [])++r)))):=by
  simp [ZaS,Zdt,List.append_assoc]
 have h3:(ZaS t++r).take 3=ZB:=by rw [hp];simp [ZB]
 have h10:((ZaS t++r).take 10).drop 3=Zdt t:=by rw [hp];simp [ZB,Zdt,ZO]
 have st:(⟨ZaS t++r,0,0,0,0⟩:InS)=InS.mk' 0 [] (ZaS t++r):=rfl;have bd:(if ZcH t.v t.fl then ZV false (ZU t) else ZU t)=Zcc t:=by
  unfold ZU;split
  · exact Zkw _
  · rfl
 have s10:(⟨Zcc t,0,10,0,0⟩:InS)=InS.mk' 10 [] (Zcc t):=rfl;simp only [Zbf,h3,h10,ne_eq,not_true_eq_false,if_false];rw [st,hp,Zrb t ok];simp only [InS.safe_mk _ _ _ _ ok.many,InS.take_mk,ez,not_true_eq_false,if_false,bd,s10,ZcF,bf.1,if_true,hl,bf.2.2];by_cases hf:ZbW t.v t.fl=true
 · simp only [hf,if_true,List.append_assoc,InS.want_mk,ez,not_true_eq_false,if_false,InS.rest_mk]
 · have hf':ZbW t.v t.fl=false:=by simpa using hf
   simp only [hf',Bool.false_eq_true,if_false,List.nil_append,ez,not_true_eq_false,InS.rest_mk]
end Go.Proofs.YtecandjkbbpooaaGreatDoor
namespace Go.Proofs.YtecandjkbbpooaaGreatDoor
open Go Go.RowKit
theorem Ziy (m:Nat):(m=0∧Value.int .i64 ((m:Int) - 1)= .int .i64 (-1))∨∃j:Nat,m=j+1∧Value.int .i64 ((m:Int) - 1)= .int .i64 j:=by
 by_cases h:m=0
 · subst h;exact .inl ⟨rfl,rfl⟩
 · exact .inr ⟨m - 1,by omega,by congr 1;omega⟩
namespace InS
theorem safeN_snoc (l:List UInt8)(i:Nat)(hi:i<l.length):Za1 (l.take (i+1))=Za1 (l.take i)*128+l[i].toNat:=by
 rw [List.take_succ_eq_append_getElem hi];unfold Za1;rw [List.foldl_append];rfl
theorem safeN_lt (l:List UInt8):∀i,i≤l.length→(∀j (h:j<l.length),j<i→l[j].toNat<128)→Za1 (l.take i)<128^i
 |0,_,_=>by simp [Za1]
 |i+1,hi,h=>by
  have h1:=safeN_lt l i (by omega) (fun j hj hji=>h j hj (by omega));have h2:=h i (by omega) (by omega);rw [safeN_snoc l i (by omega),Nat.pow_succ];omega
theorem high_skip (l:List UInt8):∀i,i≤l.length→(∀j (h:j<l.length),j<i→l[j].toNat<128)→high l=(high (l.drop i)).map (· +i)
 |0,_,_=>by simp
 |i+1,hi,h=>by
  rw [high_skip l i (by omega) (fun j hj hji=>h j hj (by omega)),List.drop_eq_getElem_cons (show i<l.length by omega),high];rw [if_neg (by have:=h i (by omega) (by omega);omega),Option.map_map];congr 1
  funext x;simp;omega
theorem high_at (l:List UInt8)(i:Nat)(hi:i<l.length)(h:∀j (h:j<l.length),j<i→l[j].toNat<128)(hx:128≤l[i].toNat):high l=some i:=by
 rw [high_skip l i (by omega) h,List.drop_eq_getElem_cons hi,high,if_pos hx];simp
theorem high_no (l:List UInt8)(h:∀j (h:j<l.length),j<l.length→l[j].toNat<128):high l=none:=by
 rw [high_skip l l.length (Nat.le_refl _) h];simp [high]
theorem take_n (s:InS)(k:Nat):(s.take k).1.length≤(s.take k).2.n∧(s.take k).2.t=s.t∧(s.take k).2.base=s.base:=by
 unfold take;split
 · simp
 · split
   · simp only [short,fail];split<;>simp
   · simp only [List.length_take,List.length_drop,and_true];omega
end InS
theorem Zrm {x y:Int} (hy₀:0≤y)(hy:y<128)(hx₀:0≤x)(hx:x<2097152):bits .or .i64 (x*128) y=x*128+y:=
 bits_join .i64 63 (by decide) (fun n h0 h1=>by simp [IntKind.wrap,IntKind.bits,IntKind.signed];omega) 7 (x*128) y (by omega) (by omega) (by omega) hy₀ hy (by omega)
def SfRel (l:List UInt8)(n i:Value):Prop:=∃k:Nat,k≤l.length∧i= .int .i64 k∧n= .int .i64 (Za1 (l.take k):Int)∧∀j (h:j<l.length),j<k→l[j].toNat<128
theorem ZfP (K:Nat)(s:InS)(w:World)(h:InAt w K s):
 Calls Tryz.prog 100 #[.pointer (some ⟨K,0,none⟩)] w (Zf K w (.int .i64 (s.safe.1:Nat)) s.safe.2):=by
 have hs:s.safe=match InS.high (s.take 4).1 with
  |some i=>(0,(s.take 4).2.fail 1 ((s.take 4).2.place ((s.take 4).2.n - (s.take 4).1.length+i)))
  |none=>(Za1 (s.take 4).1,(s.take 4).2):=rfl
 rw [hs];have ht:=fun w h=>ZcP K s 4 (by omega) (by omega) w h;rw [show(4:Int).toNat=4 from rfl] at ht;unfold Zf at ht;have hl:=Zd4 s 4;obtain⟨hn1,hn2,hn3⟩:=InS.take_n s 4;clear hs hn2 hn3;generalize (s.take 4).2=s2 at*;generalize hLL:(s.take 4).1=L at*;obtain⟨R,hR⟩:∃R:Nat×InS,R=match InS.high L with
  |some i=>(0,s2.fail 1 (s2.place (s2.n - L.length+i)))
  |none=>(Za1 L,s2):=⟨_,rfl⟩
 rw [←hR];generalize hP:Zf K w (.int .i64 (R.1:Nat)) R.2=P at*;have H:=Lib.hid h;have HR:=Lib.hid hR;have hsz:=Zl L;clear h hLL hR;go_enter Tryz.func100,Tryz.ntmps100
 go_wp2_with (go_at_call 57;refine(ht _ H.out).mono ?_;rintro e w2 ⟨rfl,h2,hb2⟩)
 have H2:=Lib.hid h2;obtain⟨c0,c1,c2,c3,c4⟩:=h2.get;have hbase:=h2.base;have hfit:=h2.fits;have hlen:=h2.len;clear h2 c0 c2 c3 c4;go_loop [4,5] (fun n i=>SfRel L n i) (fun _ i=>L.length - (intOf i).toNat)
 case atStart=>exact⟨0,Nat.zero_le _,rfl,rfl,fun j _ h=>by omega⟩
 case round=>
  obtain⟨i,hi,rfl,rfl,hlow⟩:=hrel;have Hlow:=Lib.hid hlow;clear hlow;by_cases hlt:i<L.length
  · have hg:(B L)[i]'(by omega)=L[i]:=by simp [B];rfl
    by_cases hx:128≤L[i].toNat
    · have hp:=fun w h=>Zg6 K s2 ((s2.n:Int) - L.length+i) (by omega) (by omega) w h;have hf:=fun w h=>Za5 K s2 1 ((s2.base:Int)+((s2.n:Int) - L.length+i)) (by decide) (by omega) w h;unfold Zf at hf;have hRR:=HR.out;rw [InS.high_at L i hlt Hlow.out hx] at hRR;simp only at hRR;have he:s2.fail (1:Int).toNat ((s2.base:Int)+((s2.n:Int) - L.length+i)).toNat=R.2:=by
       rw [hRR];simp only;rw [Zdp s2 _ hbase (by omega)];congr 1;omega
      have he1:(R.1:Int)=0:=by rw [hRR];rfl
      rw [he] at hf;have He1:=Lib.hid he1;clear he he1 hRR;go_wp2_with (first|(go_at_call 115;refine(hp _ H2.out).mono ?_;rintro e w3 ⟨rfl,rfl⟩)|(go_at_call 110;refine(hf _ H2.out).mono ?_;rintro e w3 ⟨rfl,h3,hb3⟩))
      show P (.returned (.int .i64 0)) _
      rw [←hP];exact⟨by rw [He1.out],h3,hb2.trans (hb3.mono hb2.size)⟩
    · have hsn:=InS.safeN_snoc L i hlt;have hbd:=InS.safeN_lt L i hi Hlow.out;have hbd2:(128:Nat)^i≤128^3:=Nat.pow_le_pow_right (by decide) (by omega);have hbd3:(128:Nat)^3=2097152:=by decide
      have hbd4:Za1 (L.take i)<2097152:=by omega
      clear hbd hbd2 hbd3;have hor:=Zrm (x:=(Za1 (L.take i):Int)) (y:=(L[i].toNat:Int)) (by omega) (by omega) (by omega) (by omega);have Hsn:=Lib.hid hsn;clear hsn;generalize Za1 (L.take i)=N at*;go_wp2_with fail
      go_round
      case rel=>
       refine⟨i+1,by omega,by go_num,by rw [Hsn.out];go_num,fun j hj hji=> ?_⟩;by_cases e:j=i
       · subst e;omega
       · exact Hlow.out j hj (by omega)
      case measure=>simp [intOf];omega
  · have hil:i=L.length:=by omega
    subst hil;have hRR:=HR.out;rw [InS.high_no L Hlow.out] at hRR;simp only at hRR;have HRR:=Lib.hid hRR;clear hRR;go_wp2_with fail
    show P (.returned (.int .i64 (Za1 L:Int))) _
    rw [←hP,HRR.out];exact⟨rfl,H2.out,hb2⟩
namespace InS
theorem differ_skip:∀(k:Nat) (w r:List UInt8),k≤w.length→k≤r.length→(∀j,j<k→w[j]? =r[j]?)→differ w r=(differ (w.drop k) (r.drop k)).map (· +k)
 |0,_,_,_,_,_=>by simp
 |k+1,x::w,y::r,h1,h2,h=>by
  have h0:=h 0 (by omega);simp only [List.getElem?_cons_zero,Option.some.injEq] at h0;subst h0;have ih:=differ_skip k w r (by simpa using h1) (by simpa using h2) (fun j hj=>by have:=h (j+1) (by omega);simpa using this);simp only [differ,if_pos,ih,Option.map_map,List.drop_succ_cons];congr 1
 |k+1,[],_,h1,_,_=>by simp at h1
 |k+1,_::_,[],_,h2,_=>by simp at h2
theorem differ_nil (w:List UInt8):differ [] w=none∧differ w []=none:=by
 constructor
 · cases w<;>rfl
 · cases w<;>rfl
end InS
def WnRel (l r:List UInt8)(W:World)(i:Value)(wr:World):Prop:=∃k:Nat,k≤l.length∧k≤r.length∧i= .int .i64 k∧(∀j,j<k→l[j]? =r[j]?)∧∃n,wr=W.drewN n
theorem Zhd (K:Nat)(s:InS)(l:List UInt8)(hl:l.length≤1000000000)(w:World)(h:InAt w K s):
 Calls Tryz.prog 51 #[.pointer (some ⟨K,0,none⟩),.string (B l)] w (Zf K w (.bool (s.want l).1) (s.want l).2):=by
 obtain⟨R,hR⟩:∃R,R=s.want l:=⟨_,rfl⟩
 rw [←hR];generalize hP:Zf K w (.bool R.1) R.2=P at*;have H:=Lib.hid h;by_cases h0:s.e=0
 · have hr:=fun w h=>Zde K s w h h0;obtain⟨c0,c1,c2,c3,c4⟩:=h.get;have hlt:=h.lt;have hfi:=h.fits;have hle:=h.len;have hba:=h.base;have hsz:=Zl s.t;have hszl:=Zl l;have he:(B s.t).extract s.n s.t.length=B (s.t.drop s.n):=by
    rw [ZcJ,List.take_of_length_le (by simp)]
   have hrl:(s.t.drop s.n).length=s.t.length - s.n:=List.length_drop ..;have hszr:=Zl (s.t.drop s.n);rw [InS.want,if_neg (by omega)] at hR;have HR:=Lib.hid hR;have Hrl:=Lib.hid hrl;clear h h0 c2 c3 c4 hR hrl;generalize s.t.drop s.n=r at*;go_enter Tryz.func51,Tryz.ntmps51
   go_wp2_with (go_at_call 114;refine(hr _ H.out).mono ?_;rintro e w1 ⟨rfl,hb1⟩;obtain⟨hc,hf⟩:=Zb2 hb1)
   go_quiet (fail)
   go_wp2_with fail
   have hB0:=below_drewN hb1 nq;have H0:=(H.out.below hb1).drewN nq;generalize w1.drewN nq=w0 at*;have HB0:=Lib.hid hB0;have HH0:=Lib.hid H0;clear hb1 hc hf hB0 H0 c0 c1;go_loopw [6] (fun i wr=>WnRel l r w0 i wr) (fun i _=>l.length - (intOf i).toNat)
   case atStart=>exact⟨0,Nat.zero_le _,Nat.zero_le _,rfl,fun j h=>by omega,0,rfl⟩
   case round=>
    obtain⟨k,hk1,hk2,rfl,heq,n,rfl⟩:=hrel;have Heq:=Lib.hid heq;obtain⟨c0,c1,c2,c3,c4⟩:=HH0.out.get;have f1:=HH0.out.free 1;clear heq c0 c2 c3 c4;by_cases hlt1:k<l.length
    · by_cases hlt2:k<r.length
      · have hg1:(B l)[k]'(by omega)=l[k]:=by simp [B];rfl
        have hg2:(B r)[k]'(by omega)=r[k]:=by simp [B];rfl
        by_cases hx:l[k]=r[k]
        · have hx1:(l[k].toNat:Int)=(r[k].toNat:Int):=by rw [hx]
          have hd:((l[k].toNat:Int) !=(r[k].toNat:Int))=false:=by rw [hx1];simp
          clear hx1;have Hx:=Lib.hid hx;clear hx;go_wp2_with fail
          go_quiet (fail)
          go_wp2_with fail
          go_roundw
          case rel=>
           refine⟨k+1,by omega,by omega,by go_num,fun j hj=> ?_,_,rfl⟩;by_cases e:j=k
           · subst e;rw [List.getElem?_eq_getElem hlt1,List.getElem?_eq_getElem hlt2,Hx.out]
           · exact Heq.out j (by omega)
          case measure=>simp [intOf];omega
        · have hx1:(l[k].toNat:Int)≠(r[k].toNat:Int):=fun e=>hx (UInt8.toNat_inj.1 (by omega));have hd:((l[k].toNat:Int) !=(r[k].toNat:Int))=true:=by simpa using hx1
          have hRR:=HR.out;rw [InS.differ_skip k l r hk1 hk2 Heq.out,List.drop_eq_getElem_cons hlt1,List.drop_eq_getElem_cons hlt2,InS.differ,if_neg hx] at hRR;simp only [Option.map_some,Nat.zero_add] at hRR;have hrl:=Hrl.out;have hp:=fun w h=>Zg6 K s ((s.n:Int)+k) (by omega) (by omega) w h;have hf:=fun w h=>Za5 K s 1 ((s.base:Int)+((s.n:Int)+k)) (by decide) (by omega) w h;unfold Zf at hf;have he2:s.fail (1:Int).toNat ((s.base:Int)+((s.n:Int)+k)).toNat=R.2:=by
           rw [hRR];simp only;rw [Zdp s _ hba (by omega)];congr 1
          have he1:R.1=false:=by rw [hRR]
          rw [he2] at hf;have He1:=Lib.hid he1;clear hRR he2 he1 hrl hx1 hx;go_wp2_with fail
          go_quiet (fail)
          go_wp2_with (first|(go_at_call 115;refine(hp _ (HH0.out.drewN _)).mono ?_;rintro e w3 ⟨rfl,rfl⟩)|(go_at_call 110;refine(hf _ (HH0.out.drewN _)).mono ?_;rintro e w3 ⟨rfl,h3,hb3⟩))
          show P (.returned (.bool false)) _
          rw [←hP];exact⟨by rw [He1.out],h3,(But.of (below_drewN HB0.out _)).trans (hb3.mono (HB0.out.size))⟩
      · have hk:k=r.length:=by omega
        subst hk;have hRR:=HR.out;rw [InS.differ_skip _ l r hk1 hk2 Heq.out,List.drop_length,(InS.differ_nil _).2] at hRR;simp only [Option.map_none] at hRR;have hrl:=Hrl.out;rw [if_pos (by omega)] at hRR;have he1:R.1=false:=by rw [hRR]
        have hf:=fun w h=>Ze1 K s w h;unfold Zf at hf;have he2:s.short=R.2:=by rw [hRR]
        rw [he2] at hf;have He1:=Lib.hid he1;clear hRR he2 he1 hrl;go_wp2_with (first|(go_at_call 116;refine(hf _ (HH0.out.drewN _)).mono ?_;rintro e w3 ⟨rfl,h3,hb3⟩))
        show P (.returned (.bool false)) _
        rw [←hP];exact⟨by rw [He1.out],h3,(But.of (below_drewN HB0.out _)).trans (hb3.mono (HB0.out.size))⟩
    · have hk:k=l.length:=by omega
      subst hk;have hRR:=HR.out;rw [InS.differ_skip _ l r hk1 hk2 Heq.out,List.drop_length,(InS.differ_nil _).1] at hRR;simp only [Option.map_none] at hRR;have hrl:=Hrl.out;rw [if_neg (by omega)] at hRR;have HRR:=Lib.hid hRR;clear hRR;go_wp2_with fail
      show P (.returned (.bool true)) _
      rw [←hP,HRR.out];exact⟨rfl,(HH0.out.drewN _).nextZ (s.n+l.length) _ (by omega) (by omega),(But.of (below_drewN HB0.out _)).setCell (p:=⟨K,1,none⟩) (.inr rfl) _⟩
 · have hr:=fun w h=>Zdd K s w h h0;rw [InS.want,if_pos h0] at hR;have Hs:=Lib.hid hR;clear hR h h0;go_enter Tryz.func51,Tryz.ntmps51
   go_wp2_with (go_at_call 114;refine(hr _ H.out).mono ?_;rintro e w1 ⟨rfl,hb1⟩)
   show P (.returned (.bool false)) _
   rw [←hP,Hs.out];exact⟨rfl,H.out.below hb1,.of hb1⟩
theorem Zin {α:Type} (z x:α)(l:List α):∀m,(List.replicate (m+1) z++l).set m x=List.replicate m z++x::l
 |0=>rfl
 |m+1=>by
  have:=Zin z x l m;rw [List.replicate_succ,List.cons_append,List.set_cons_succ,this,List.replicate_succ,List.cons_append]
theorem u8_of (M:Nat):u8V (UInt8.ofNat (M % 256))= .int .u8 ((M:Int) % 256):=by
 unfold u8V;rw [UInt8.toNat_ofNat'];congr 1;omega
def BbRel (N k:Nat)(w0:World)(n i:Value)(wr:World):Prop:=∃m j:Nat,m+j=k∧n= .int .u64 ((N / 256^j:Nat):Int)∧((m=0∧i= .int .i64 (-1))∨∃q:Nat,m=q+1∧i= .int .i64 q)∧
 wr.ownsRow w0.heap.size 5 1 (.slice (some ⟨w0.heap.size,0,none⟩) k k) k ((List.replicate m 0++Zah N j).map u8V)∧Below w0.heap.size w0 wr
theorem ZeQ (N k:Nat)(hN:N<18446744073709551616)(hk1:1≤k)(hk:k≤8)(w:World):
 Calls Tryz.prog 32 #[.int .u64 N,.int .i64 k] w fun e w'=>e= .returned (.string (B (Zah N k)))∧Below w.heap.size w w':=by
 obtain⟨i0,hi,iz0,iz1,iz2⟩:=info_parts Zd5;have hw:=fun w=>ZjM k hk w;go_enter Tryz.func32,Tryz.ntmps32
 go_wp2_with (first|(go_at_call 85;refine(hw _).mono ?_;rintro e w1 ⟨rfl,rfl⟩)|(at_make;refine wpList_make_full _ rfl _ _ 150 rfl w.heap.size 5 i0 (.int .u8 0) 1 Tryz.underlying150 hi iz0 iz1 .i64 .i64 k k k rfl rfl rfl rfl (by rw [iz2];omega) (by unfold maxLen;omega) (Nat.le_refl _) ?_;intro w1 hown1 hg1))
 have hB1:Below w.heap.size w w1:=(Below.refl _ w).grown hg1 (Nat.le_refl _) (fun k h=>by cases h);go_loopw [0,6] (fun n i wr=>BbRel N k w n i wr) (fun _ i _=>(intOf i+1).toNat)
 case atStart=>
  refine⟨k,0,rfl,by simp,Ziy k,?_,hB1⟩;have e:(madeCells (Value.int .u8 0).cells (k*1)).toList=((List.replicate k 0++Zah N 0).map u8V:List Value):=by
   rw [Nat.mul_one,show(Value.int .u8 0).cells=#[.int .u8 0] from rfl,toList_madeCells_one];simp [Zah,u8V]
  rw [←e];exact hown1
 case round=>
  obtain⟨m,j,hmj,rfl,hi2,hown,hb⟩:=hrel;have hz:=hb.size;rcases hi2 with⟨rfl,rfl⟩|⟨q,rfl,rfl⟩
  · have hj:j=k:=by omega
    subst hj;rw [List.replicate_zero,List.nil_append] at hown;have hcv:=Ze6 wr hown;clear hown;go_wp2_with fail
    go_ret
    exact⟨rfl,hb⟩
  · have hce:∃u,wr.cell? ⟨w.heap.size,q,none⟩=some u:=by
     have hl:=hown.1;exact⟨_,by rw [hown.cellAt q (by omega),List.getElem?_eq_getElem (by omega)]⟩
    obtain⟨u,hce⟩:=hce;have hfz:=hown.frozenAt q;have hgl:w.heap.size<wr.heap.size:=World.block_lt_of_cell? _ _ hce;have hst:=(hown.stored q (u8V (UInt8.ofNat (N / 256^j % 256)))).1;rw [←List.map_set,Zin,u8_of] at hst;have Hst:=Lib.hid hst;have hNj:N / 256^j<18446744073709551616:=Nat.lt_of_le_of_lt (Nat.div_le_self _ _) hN;have hM:N / 256^(j+1)=N / 256^j / 256:=by rw [Nat.pow_succ,Nat.div_div_eq_div_mul]
    have HM:=Lib.hid hM;clear hst hown hM;generalize hMM:N / 256^j=M at*;have HMM:=Lib.hid hMM;clear hMM;go_wp2_with fail
    go_roundw
    case rel=>
     refine⟨q,j+1,by omega,by rw [HM.out];go_num,Ziy q,?_,hb.setCell (p:=⟨w.heap.size,q,none⟩) (Nat.le_refl _) _⟩;have:=Hst.out;rw [Zah,HMM.out];exact this
    case measure=>simp [intOf]
def Zd1 (N:Nat):Nat→List UInt8
 |0=>[]
 |j+1=>UInt8.ofNat (N / 128^j % 128)::Zd1 N j
theorem Ztb (N:Nat):Zd1 N 4=ZO N:=by simp [Zd1,ZO]
theorem u8_of7 (M:Nat):u8V (UInt8.ofNat (M % 128))= .int .u8 ((M:Int) % 128):=by
 unfold u8V;rw [UInt8.toNat_ofNat'];congr 1;omega
theorem Zpq (M:Nat)(h:M<18446744073709551616):bits .and .u64 (M:Int) 127=(M:Int) % 128:=by
 have:=bits_and_u64_nat M 127 h (by decide);rw [show M&&&127=M % 128 from Nat.and_two_pow_sub_one_eq_mod M 7] at this;rw [show((127:Nat):Int)=127 from rfl] at this;rw [this];omega
def SvRel (N:Nat)(w0:World)(n i:Value)(wr:World):Prop:=∃m j:Nat,m+j=4∧n= .int .u64 ((N / 128^j:Nat):Int)∧((m=0∧i= .int .i64 (-1))∨∃q:Nat,m=q+1∧i= .int .i64 q)∧
 wr.ownsRow w0.heap.size 5 1 (.slice (some ⟨w0.heap.size,0,none⟩) 4 4) 4 ((List.replicate m 0++Zd1 N j).map u8V)∧Below w0.heap.size w0 wr
theorem ZeX (N:Nat)(hN:N<268435456)(w:World):
 Calls Tryz.prog 74 #[.int .u64 N] w fun e w'=>e= .returned (.tuple #[.string (B (ZO N)),.bool true])∧Below w.heap.size w w':=by
 obtain⟨i0,hi,iz0,iz1,iz2⟩:=info_parts Zd5;go_enter Tryz.func74,Tryz.ntmps74
 go_wp2_with (at_make;refine wpList_make_full _ rfl _ _ 150 rfl w.heap.size 5 i0 (.int .u8 0) 1 Tryz.underlying150 hi iz0 iz1 .i64 .i64 4 4 4 rfl rfl rfl rfl (by rw [iz2];omega) (by unfold maxLen;omega) (Nat.le_refl _) ?_;intro w1 hown1 hg1)
 have hB1:Below w.heap.size w w1:=(Below.refl _ w).grown hg1 (Nat.le_refl _) (fun k h=>by cases h);go_loopw [0,5] (fun n i wr=>SvRel N w n i wr) (fun _ i _=>(intOf i+1).toNat)
 case atStart=>
  refine⟨4,0,rfl,by simp,.inr ⟨3,rfl,rfl⟩,?_,hB1⟩;have e:(madeCells (Value.int .u8 0).cells (4*1)).toList=((List.replicate 4 0++Zd1 N 0).map u8V:List Value):=by
   rw [Nat.mul_one,show(Value.int .u8 0).cells=#[.int .u8 0] from rfl,toList_madeCells_one];simp [Zd1,u8V]
  rw [←e];exact hown1
 case round=>
  obtain⟨m,j,hmj,rfl,hi2,hown,hb⟩:=hrel;have hz:=hb.size;rcases hi2 with⟨rfl,rfl⟩|⟨q,rfl,rfl⟩
  · have hj:j=4:=by omega
    subst hj;rw [List.replicate_zero,List.nil_append,Ztb] at hown;have hcv:=Ze6 wr hown;clear hown;go_wp2_with fail
    go_ret2
    exact⟨rfl,hb⟩
  · have hce:∃u,wr.cell? ⟨w.heap.size,q,none⟩=some u:=by
     have hl:=hown.1;exact⟨_,by rw [hown.cellAt q (by omega),List.getElem?_eq_getElem (by omega)]⟩
    obtain⟨u,hce⟩:=hce;have hfz:=hown.frozenAt q;have hgl:w.heap.size<wr.heap.size:=World.block_lt_of_cell? _ _ hce;have hst:=(hown.stored q (u8V (UInt8.ofNat (N / 128^j % 128)))).1;rw [←List.map_set,Zin,u8_of7] at hst;have Hst:=Lib.hid hst;have hNj:N / 128^j<18446744073709551616:=Nat.lt_of_le_of_lt (Nat.div_le_self _ _) (by omega);have hM:N / 128^(j+1)=N / 128^j / 128:=by rw [Nat.pow_succ,Nat.div_div_eq_div_mul]
    have HM:=Lib.hid hM;clear hst hown hM;generalize hMM:N / 128^j=M at*;have HMM:=Lib.hid hMM;have han:=Zpq M hNj;clear hMM;go_wp2_with fail
    go_roundw
    case rel=>
     refine⟨q,j+1,by omega,by rw [HM.out];go_num,Ziy q,?_,hb.setCell (p:=⟨w.heap.size,q,none⟩) (Nat.le_refl _) _⟩;have:=Hst.out;rw [Zd1,HMM.out];exact this
    case measure=>simp [intOf]
theorem Zbc (t:List UInt8)(i:Nat)(h:i<t.length):(B t)[i]'(by rw [Zl];exact h)=t[i]:=by simp [B];rfl
theorem ZrI (t:List UInt8)(i:Nat)(h:i<t.length):looksAt t i=Zc0 t[i] (t.drop (i+1)):=by
 unfold looksAt;rw [List.drop_eq_getElem_cons h]
theorem Zjf (t:List UInt8)(i:Nat)(hi:i<t.length)(ht:t.length≤1000000000)(w:World):
 Calls Tryz.prog 229 #[.string (B t),.int .i64 i] w fun e w'=>e= .returned (.bool (looksAt t i))∧w=w':=by
 have hsz:=Zl t;have hg:=Zbc t i hi;have hla:=ZrI t i hi;by_cases h1:t[i]=255
 · have hx:(t[i].toNat:Int)=255:=by rw [h1];rfl
   by_cases h2:i+1=t.length
   · have hv:looksAt t i=true:=by
      rw [hla,h1,h2,List.drop_length];rfl
     have hd:(((i:Int)+1)==(t.length:Int))=true:=by rw [beq_iff_eq];omega
     have HV:=Lib.hid hv;clear hv hla h1;go_enter Tryz.func229,Tryz.ntmps229
     go_wp2_with fail
     go_ret
     exact⟨by rw [HV.out];rfl,rfl⟩
   · have hg2:=Zbc t (i+1) (by omega);have hd:(((i:Int)+1)==(t.length:Int))=false:=by rw [beq_eq_false_iff_ne];omega
     have hl2:looksAt t i=(t[i+1]==0||decide (224≤t[i+1].toNat)):=by
      rw [hla,h1,List.drop_eq_getElem_cons (show i+1<t.length by omega)];rfl
     by_cases h3:t[i+1]=0
     · have hy:(t[i+1].toNat:Int)=0:=by rw [h3];rfl
       have hv:looksAt t i=true:=by rw [hl2,h3];rfl
       have HV:=Lib.hid hv;clear hv hla h1 hl2 h3;go_enter Tryz.func229,Tryz.ntmps229
       go_wp2_with fail
       go_ret
       exact⟨by rw [HV.out];rfl,rfl⟩
     · have hy:((t[i+1].toNat:Int)==0)=false:=by rw [beq_eq_false_iff_ne];exact fun e=>h3 (UInt8.toNat_inj.1 (by show t[i+1].toNat=0;omega))
       have hv:looksAt t i=decide (224≤(t[i+1].toNat:Int)):=by
        rw [hl2,show(t[i+1]==0)=false by simpa using h3,Bool.false_or];congr 1;exact propext (by omega)
       have HV:=Lib.hid hv;clear hv hla h1 hl2 h3;by_cases h4:224≤(t[i+1].toNat:Int)
       · go_enter Tryz.func229,Tryz.ntmps229
         go_wp2_with fail
         go_ret
         exact⟨by rw [HV.out];simp [h4],rfl⟩
       · go_enter Tryz.func229,Tryz.ntmps229
         go_wp2_with fail
         go_ret
         exact⟨by rw [HV.out];simp [h4],rfl⟩
 · have hx:((t[i].toNat:Int)==255)=false:=by rw [beq_eq_false_iff_ne];exact fun e=>h1 (UInt8.toNat_inj.1 (by show t[i].toNat=255;omega))
   have hx2:((t[i].toNat:Int) !=255)=true:=by rw [bne,hx];rfl
   have hv:looksAt t i=false:=by rw [hla];unfold Zc0;rw [show(t[i]==255)=false by simpa using h1];rfl
   have HV:=Lib.hid hv;clear hv hla h1;go_enter Tryz.func229,Tryz.ntmps229
   go_wp2_with fail
   go_ret
   exact⟨by rw [HV.out];rfl,rfl⟩
def ExRel (t:List UInt8)(n i:Value):Prop:=∃k m:Nat,k≤t.length∧i= .int .i64 k∧n= .int .i64 m∧ZaE t=m+ZaE (t.drop k)
theorem ZgW (t:List UInt8)(ht:t.length≤1000000000)(w:World):
 Calls Tryz.prog 151 #[.string (B t)] w fun e w'=>e= .returned (.int .i64 (ZaE t))∧w=w':=by
 have hsz:=Zl t;have hle:=Zdh t;go_enter Tryz.func151,Tryz.ntmps151
 go_wp2_with fail
 go_loop [3,7] (fun n i=>ExRel t n i) (fun _ i=>t.length - (intOf i).toNat)
 case atStart=>exact⟨0,0,by omega,rfl,rfl,by simp⟩
 case round=>
  obtain⟨k,m,hk,rfl,rfl,he⟩:=hrel;by_cases hlt:k<t.length
  · have hst:=ZqB t k hlt;have hlk:=fun w=>Zjf t k hlt ht w;by_cases hb:looksAt t k=true
    · rw [hb] at hlk hst;rw [if_pos rfl] at hst;have he2:ZaE t=(m+1)+ZaE (t.drop (k+1)):=by omega
      have hm:m<1000000000:=by omega
      have He2:=Lib.hid he2;clear he he2 hst hb;go_wp2_with (go_at_call 229;refine(hlk _).mono ?_;rintro e w1 ⟨rfl,rfl⟩)
      go_round
      case rel=>exact⟨k+1,m+1,by omega,by go_num,by go_num,He2.out⟩
      case measure=>simp [intOf];omega
    · have hb':looksAt t k=false:=by simpa using hb
      rw [hb'] at hlk hst;rw [if_neg (by decide)] at hst;have he2:ZaE t=m+ZaE (t.drop (k+1)):=by omega
      have He2:=Lib.hid he2;clear he he2 hst hb hb';go_wp2_with (go_at_call 229;refine(hlk _).mono ?_;rintro e w1 ⟨rfl,rfl⟩)
      go_round
      case rel=>exact⟨k+1,m,by omega,by go_num,rfl,He2.out⟩
      case measure=>simp [intOf];omega
  · have hk2:k=t.length:=by omega
    subst hk2;rw [List.drop_length,ZaE,Nat.add_zero] at he;have He:=Lib.hid he;clear he hle;go_wp2_with fail
    go_ret
    exact⟨by rw [He.out];rfl,rfl⟩
end Go.Proofs.YtecandjkbbpooaaGreatDoor
