/- Lemmas for a statement on the tops; conditions: as each says. -/
import Derived.Deep.Slices
import Derived.Deep.Fields
import Derived.ChangeSame
import Derived.Test.YtnbkfkbcpfkddaaGreatDoorM30
set_option linter.unusedVariables false
set_option linter.unusedSimpArgs false
set_option maxRecDepth 100000
set_option maxHeartbeats 4000000
namespace Go.Proofs.YtnbkfkbcpfkddaaGreatDoor
open Go Go.RowKit
theorem Zmk (K:Nat)(s:InS)(w:World)(h:InAt w K s)(h0:s.e≠0∨s.left=0):
 Calls Tryz.prog 110 #[.pointer (some ⟨K,0,none⟩)] w fun e w'=>e= .returned (.tuple #[.agg pgZ,.bool false])∧Below w.heap.size w w':=by
 have wl:=fun w h=>ZfB K s w h;have wf0:=fun w h=>ZbQ K s w h;have R0:=Lib.hid ((Kp.start w).new pgZ 27);have I0:=Lib.hid (h.alloc (.cells pgZ 27));obtain⟨x0,x1,x2,x3,x4,x5⟩:=R0.out.b0.six;by_cases he:s.e=0
 · have hl:((s.left:Int)==0)=true:=by simp;omega
   have hb0:=fun w=>ZT (s.e:Int) s.a (by omega) w;unfold pgZ at*;clear h h0 he;go_enter Tryz.func110,Tryz.ntmps110
   go_wp2_with (first
    |(go_at_call 55;(with_reducible refine(wf0 _ I0.out).mono ?_);rintro e wx ⟨rfl,hb⟩;have R1:=Lib.hid (R0.out.below hb);have I1:=Lib.hid (I0.out.below hb);clear hb)
    |(go_at_call 8;(with_reducible refine(hb0 _).mono ?_);rintro e wx ⟨rfl,hb⟩;have R2:=Lib.hid (R1.out.below hb);have I2:=Lib.hid (I1.out.below hb);clear hb)
    |(go_at_call 121;(with_reducible refine(wl _ I2.out).mono ?_);rintro e wy ⟨rfl,hb⟩;have R3:=Lib.hid (R2.out.below hb);clear hb;obtain⟨x0,x1,x2,x3,x4,x5⟩:=R3.out.b0.six;have rf:=R3.out.b0.free;have rl:=R3.out.b0.lt))
   have F:=Bx.zero6 R3.out.b0 (.int .u8 0) (.int .u64 0) (.int .u32 0) (.int .u32 0) (.string ⟨#[]⟩) (.string ⟨#[]⟩);refine bodyPost_ret (results_cell_tmp rfl _ _ w.heap.size _ _ _ _ _ rfl rfl F Tryz.underlying27 rfl (by kernel_rfl)) rfl ⟨rfl,ZkZ R3.out.low (Nat.le_refl _) _ _ _ _ _ _⟩
 · have hb0:=fun w=>Za5 (s.e:Int) s.a (by omega) w;unfold pgZ at*;clear h h0 he;go_enter Tryz.func110,Tryz.ntmps110
   go_wp2_with (first
    |(go_at_call 55;(with_reducible refine(wf0 _ I0.out).mono ?_);rintro e wx ⟨rfl,hb⟩;have R1:=Lib.hid (R0.out.below hb);clear hb)
    |(go_at_call 8;(with_reducible refine(hb0 _).mono ?_);rintro e wx ⟨rfl,hb⟩;have R3:=Lib.hid (R1.out.below hb);clear hb;obtain⟨x0,x1,x2,x3,x4,x5⟩:=R3.out.b0.six;have rf:=R3.out.b0.free;have rl:=R3.out.b0.lt))
   have F:=Bx.zero6 R3.out.b0 (.int .u8 0) (.int .u64 0) (.int .u32 0) (.int .u32 0) (.string ⟨#[]⟩) (.string ⟨#[]⟩);refine bodyPost_ret (results_cell_tmp rfl _ _ w.heap.size _ _ _ _ _ rfl rfl F Tryz.underlying27 rfl (by kernel_rfl)) rfl ⟨rfl,ZkZ R3.out.low (Nat.le_refl _) _ _ _ _ _ _⟩
theorem Zpz (p:Pg):(ZL Zp p).length=27+p.laces.length+p.body.length:=by
 unfold ZL ZP Z9;simp only [List.length_append,List.length_cons,List.length_nil,ZcP];omega
def pgL (p:Pg):List Value:=[.int .u8 p.fl.toNat,.int .u64 (p.pos:Nat),.int .u32 (p.ser:Nat),.int .u32 (p.num:Nat),.string (B p.laces),.string (B p.body)]
theorem ZqW (l:List UInt8)(k:Nat):Zc (l.take k)≤Zc l:=by
 conv=>rhs;rw [←List.take_append_drop k l,ZcT]
 omega
def ZdW:List UInt8:=[1,118,111,114,98,105,115]
def Zad:List UInt8:=[3,118,111,114,98,105,115]
def Zd2:List UInt8:=[5,118,111,114,98,105,115]
structure Sx where
 first:Pg
 v:List UInt8
 ns:List Nx
 setup:List UInt8
 sound:List Pg
structure PgTy (p:Pg):Prop where
 pos:p.pos<18446744073709551616
 ser:p.ser<4294967296
 num:p.num<4294967296
structure LightO (x:Sx):Prop where
 snl:x.sound.length≤10
 snd:∀p∈x.sound,p.laces.length≤300∧p.body.length≤500
 set:x.setup.length≤70000
 fl:x.first.laces.length≤300
 fb:x.first.body.length≤500
 nsl:x.ns.length≤30
 note:∀n∈x.ns,n.name.length≤50∧n.text.length≤150
 vend:x.v.length≤150
structure SxTy (x:Sx):Prop where
 first:PgTy x.first
 sound:∀p∈x.sound,PgTy p
def Za0 (p:Pg):Bool:=match ZI false [] 0 [p] with
 | .ok [x]=>p.fl&&&2==2&&ZdW.isPrefixOf x
 |_=>false
def ZcQ (ser:Nat)(fst:Bool)(p:Pg):Bool:=Zab p==(0,0)&&(p.ser==ser&&(!(p.fl&&&2==2)&& !(fst&&p.fl&&&1==1)))
def Z8 (ser:Nat):Bool→List Pg→Bool
 |_,[]=>true
 |fst,p::l=>ZcQ ser fst p&&Z8 ser false l
def ckS (x:Sx):Bool:=Za0 x.first&&(x.first.num==0&&(ckC x.v x.ns&&(Zd2.isPrefixOf x.setup&&Z8 x.first.ser true x.sound)))
def Z4 (x:Sx):List UInt8:=Zad++ZC true (bkX x.v x.ns)
def Zn (x:Sx):List Pg:=ZaY x.first.ser (Z4 x) x.setup
def ZO (x:Sx):List Pg:=ZcL x.first (Z4 x) x.setup x.sound
def prS (x:Sx):List UInt8:=((ZO x).map (ZL Zp)).flatten
theorem ZbU (x:Sx):ZO x=x.first::(Zn x++Zt (1+(Zn x).length) x.sound):=rfl
theorem ZeA {p:Pg} (h:Zab p=(0,0)):p.laces.length≤255∧p.body.length=Zc p.laces:=by
 unfold Zab at h;split at h
 · cases h
 · split at h
   · cases h
   · next h1 h2=>exact⟨by omega,Classical.not_not.1 h2⟩
theorem Zf8 {p:Pg} (h1:p.laces.length≤255)(h2:p.body.length=Zc p.laces):Zab p=(0,0):=by
 unfold Zab;rw [if_neg (by omega),if_neg (fun h=>h h2)]
theorem ZgS {p:Pg} (h:Zab p=(0,0))(ht:PgTy p):PgOk p:=⟨ht.pos,ht.ser,ht.num,(ZeA h).1,(ZeA h).2⟩
theorem PgOk.fit {p:Pg} (h:PgOk p):PgFit p:=⟨h.pos,h.ser,h.num,by have:=h.laces;omega,by have:=h.laces;have:=h.body;have:=ZbL p.laces;omega⟩
theorem PgOk.ck {p:Pg} (h:PgOk p):Zab p=(0,0):=Zf8 h.laces h.body
theorem Zke {p:Pg} (h:Za0 p=true):Zab p=(0,0):=by
 unfold Za0 at h;by_cases hc:255<p.laces.length∨p.body.length≠Zc p.laces∨(p.fl&&&1==1)≠false
 · have:ZI false [] 0 [p]= .error 0:=by unfold ZI;rw [if_pos hc]
   rw [this] at h;cases h
 · exact Zf8 (by omega) (by omega)
theorem Zc7:∀(l:List Pg) (i:Nat),(Zt i l).length=l.length
 |[],_=>rfl
 |_::l,i=>by rw [Zt,List.length_cons,List.length_cons,Zc7 l]
theorem Zi9:∀(l:List Pg) (i j:Nat),Zt i (Zt j l)=Zt i l
 |[],_,_=>rfl
 |_::l,i,j=>by rw [Zt,Zt,Zt,Zi9 l]
theorem ZeJ:∀{l:List Pg} {i:Nat} {p:Pg},p∈Zt i l→∃q∈l,∃j,p={q with num:=j % 4294967296}
 |[],_,_,h=>by cases h
 |q::l,i,p,h=>by
  rw [Zt] at h;rcases List.mem_cons.1 h with h|h
  · exact⟨q,by simp,i,h⟩
  · obtain⟨r,hr,j,e⟩:=ZeJ h;exact⟨r,by simp [hr],j,e⟩
theorem Zjb:∀(l:List Pg) (i:Nat) (p:Pg),Zt i (l++[p])=Zt i l++[{p with num:=(i+l.length) % 4294967296}]
 |[],i,p=>rfl
 |q::l,i,p=>by
  rw [List.cons_append,Zt,Zt,Zjb l,List.cons_append,List.length_cons,show i+1+l.length=i+(l.length+1) by omega]
theorem ZiC (ser:Nat):∀(l:List Pg) (b:Bool) (i:Nat),Z8 ser b (Zt i l)=Z8 ser b l
 |[],_,_=>rfl
 |p::l,b,i=>by
  rw [Zt,Z8,Z8,ZiC ser l];rfl
theorem Zf9 {ser:Nat}:∀{l:List Pg} {b:Bool},Z8 ser b l=true→∀p∈l,Zab p=(0,0)∧p.ser=ser∧¬(p.fl&&&2=2)
 |[],_,_,_,h=>by cases h
 |q::l,b,h,p,hp=>by
  rw [Z8,Bool.and_eq_true] at h;rcases List.mem_cons.1 hp with e|e
  · subst e;have h1:=h.1;unfold ZcQ at h1;simp only [Bool.and_eq_true,beq_iff_eq,Bool.not_eq_true',beq_eq_false_iff_ne] at h1;exact⟨h1.1,h1.2.1,h1.2.2.1⟩
  · exact Zf9 h.2 p e
theorem Znp {ser:Nat} {p:Pg} {l:List Pg} (h:Z8 ser true (p::l)=true):(p.fl&&&1==1)=false:=by
 rw [Z8,Bool.and_eq_true] at h;have h1:=h.1;unfold ZcQ at h1;simp only [Bool.and_eq_true,Bool.not_eq_true',Bool.true_and] at h1;exact h1.2.2.2
theorem Zkv (h:Pg)(hp:h.pos<18446744073709551616)(hs:h.ser<4294967296):∀(fuel k:Nat) (op:Bool) (laces body:List UInt8),body.length=Zc laces→
 ∀p∈Zy h fuel k op laces body,PgOk p
 |0,_,_,_,_,_,p,hm=>by simp [Zy] at hm
 |fuel+1,k,op,laces,body,hb,p,hm=>by
  by_cases e:laces=[]
  · simp [Zy,e] at hm
  · have hsplit:laces.take 255++laces.drop 255=laces:=List.take_append_drop 255 laces;have htot:Zc laces=Zc (laces.take 255)+Zc (laces.drop 255):=by rw [←ZcT,hsplit]
    rw [Zy,if_neg e] at hm;rcases List.mem_cons.1 hm with q|q
    · subst q;refine⟨?_,hs,?_,?_,?_⟩
      · simp only;split<;>omega
      · show(h.num+k) % 4294967296<_;omega
      · show(laces.take 255).length≤255;rw [List.length_take];omega
      · show(body.take (Zc (laces.take 255))).length=Zc (laces.take 255);rw [List.length_take];omega
    · exact Zkv h hp hs fuel (k+1) _ _ _ (by rw [List.length_drop];omega) p q
theorem Zku (h:Pg):∀(fuel k:Nat) (op:Bool) (laces body:List UInt8),(Zy h fuel k op laces body).length≤laces.length
 |0,_,_,_,_=>by simp [Zy]
 |fuel+1,k,op,laces,body=>by
  by_cases e:laces=[]
  · simp [Zy,e]
  · have hpos:0<laces.length:=List.length_pos_iff.mpr e;rw [Zy,if_neg e,List.length_cons];have:=Zku h fuel (k+1) ((laces.take 255).getLast? ==some 255) (laces.drop 255) (body.drop (Zc (laces.take 255)));rw [List.length_drop] at this;omega
theorem ZjA (n:Nat):(Zu n).length=n / 255+1:=by simp [Zu]
theorem ZgY {v:List UInt8} {ns:List Nx} (hn:ns.length≤30)(hv:v.length≤150)(h:∀n∈ns,n.name.length≤50∧n.text.length≤150):(ZC true (bkX v ns)).length≤7001:=by
 have h1:=ZpF hn hv h;unfold ZC at h1⊢;simp only [List.length_append] at h1⊢;simp only [Bool.false_eq_true,if_false,if_true,List.length_nil,List.length_cons] at h1⊢;omega
theorem Zf3 {x:Sx} (h:LightO x):(Z4 x).length≤7008:=by
 have:=ZgY h.nsl h.vend h.note;unfold Z4 Zad;rw [List.length_append];simp only [List.length_cons,List.length_nil];omega
theorem ZjP {x:Sx} (h:LightO x):(Zn x).length≤310:=by
 have h1:=Zf3 h;have h2:=h.set;unfold Zn ZaY;refine Nat.le_trans (Zku _ _ _ _ _ _) ?_;simp only [List.map_cons,List.map_nil,List.flatten_cons,List.flatten_nil,List.append_nil,List.length_append,ZjA];omega
theorem ZfT {x:Sx} (h:LightO x):(ZO x).length≤330:=by
 have h1:=ZjP h;have h2:=h.snl;rw [ZbU,List.length_cons,List.length_append,Zc7];omega
theorem ZoP {x:Sx} (ht:PgTy x.first):∀p∈Zn x,PgOk p:=fun p hp=>by
 unfold Zn ZaY at hp;exact Zkv ⟨0,0,x.first.ser,1,[],[]⟩ (by show(0:Nat)<_;omega) ht.ser _ _ _ _ _ (Zfp [Z4 x,x.setup]).symm p hp
structure CkS (x:Sx):Prop where
 opens:Za0 x.first=true
 num:x.first.num=0
 blk:ckC x.v x.ns=true
 set:Zd2.isPrefixOf x.setup=true
 snd:Z8 x.first.ser true x.sound=true
theorem ZcY {x:Sx}:ckS x=true↔CkS x:=by
 unfold ckS;simp only [Bool.and_eq_true,beq_iff_eq];exact⟨fun h=>⟨h.1,h.2.1,h.2.2.1,h.2.2.2.1,h.2.2.2.2⟩,fun h=>⟨h.1,h.2,h.3,h.4,h.5⟩⟩
theorem ZfU {x:Sx} (h:CkS x)(ht:SxTy x):∀p∈ZO x,PgOk p:=fun p hp=>by
 rw [ZbU] at hp;rcases List.mem_cons.1 hp with e|hp
 · subst e;exact ZgS (Zke h.opens) ht.first
 rcases List.mem_append.1 hp with hp|hp
 · exact ZoP ht.first p hp
 · obtain⟨q,hq,j,rfl⟩:=ZeJ hp;have h1:=(Zf9 h.snd q hq).1;have h2:=ht.sound q hq;exact ZgS (p:={q with num:=j % 4294967296}) h1 ⟨h2.pos,h2.ser,by show j % 4294967296<_;omega⟩
theorem Zpy {p:Pg} (h:PgOk p):(ZL Zp p).length≤65400:=by
 have h1:=h.laces;have h2:=h.body;have h3:=ZbL p.laces;rw [ZL,ZP];simp only [List.length_append,List.length_cons,List.length_nil,ZcP,Z9];omega
theorem ZkB:∀(l:List Pg),(∀p∈l,PgOk p)→((l.map (ZL Zp)).flatten).length≤l.length*65400
 |[],_=>by simp
 |p::l,h=>by
  have h1:=ZkB l fun q hq=>h q (by simp [hq]);have h2:=Zpy (h p (by simp));simp only [List.map_cons,List.flatten_cons,List.length_append,List.length_cons];omega
theorem ZgX {x:Sx} (h:CkS x)(hl:LightO x)(ht:SxTy x):(prS x).length≤22000000:=by
 have h1:=ZkB _ (ZfU h ht);have h2:=ZfT hl;unfold prS;omega
theorem ZqB {x:Sx} (h:CkS x):Zbh x.first.ser 0 (ZO x)=none∧ZaN 0 1 ((ZO x).drop 1)=some (Zn x).length∧
 ZI false [] 0 (((ZO x).drop 1).take (Zn x).length)= .ok [Z4 x,x.setup]∧(ZO x).drop (1+(Zn x).length)=Zt (1+(Zn x).length) x.sound:=
 Zqx x.first (Z4 x) x.setup x.sound h.num fun p hp=>(Zf9 h.snd p hp).2
def Sx.up (x:Sx):Sx:=⟨x.first,x.v,x.ns.map Nx.up,x.setup,Zt (1+(Zn x).length) x.sound⟩
theorem blk_up (x:Sx):Z4 x.up=Z4 x:=by
 unfold Z4;show Zad++ZC true (bkX x.v (x.ns.map Nx.up))=_
 unfold bkX;rw [List.map_map];rfl
theorem mid_up (x:Sx):Zn x.up=Zn x:=by
 unfold Zn;rw [blk_up];rfl
theorem Zm3 (x:Sx):ZO x.up=ZO x:=by
 rw [ZbU,ZbU,mid_up];show x.first::(Zn x++Zt (1+(Zn x).length) (Zt (1+(Zn x).length) x.sound))=_
 rw [Zi9]
theorem prS_up (x:Sx):prS x.up=prS x:=by unfold prS;rw [Zm3]
theorem ckS_up {x:Sx} (h:CkS x):CkS x.up:=⟨h.opens,h.num,by show ckC x.v (x.ns.map Nx.up)=true;rw [ckC_up];exact h.blk,h.set,by show Z8 x.first.ser true (Zt _ x.sound)=true;rw [ZiC];exact h.snd⟩
theorem ZoI {x:Sx} (h:LightO x):LightO x.up:=
 ⟨by show(Zt _ x.sound).length≤10;rw [Zc7];exact h.snl,fun p hp=>by obtain⟨q,hq,j,rfl⟩:=ZeJ hp;exact h.snd q hq,h.set,h.fl,h.fb,
  by show(x.ns.map Nx.up).length≤30;rw [List.length_map];exact h.nsl,fun n hn=>by obtain⟨m,hm,rfl⟩:=List.mem_map.1 hn;exact h.note m hm,h.vend⟩
theorem ty_up {x:Sx} (h:SxTy x):SxTy x.up:=⟨h.first,fun p hp=>by obtain⟨q,hq,j,rfl⟩:=ZeJ hp;exact⟨(h.sound q hq).pos,(h.sound q hq).ser,by show j % 4294967296<_;omega⟩⟩
theorem ZpE (x:Sx):∃r,prS x=Z9++r:=by
 unfold prS;rw [ZbU,List.map_cons,List.flatten_cons,ZL,ZP,List.append_assoc];exact⟨_,rfl⟩
structure NtSt (w wx:World)(K:Nat)(BX:Array Value)(s:InS):Prop where
 sc:Bx wx w.heap.size BX 192
 res:Bx wx (w.heap.size+1) #[.string ⟨#[]⟩,.string ⟨#[]⟩,.int .i64 0] 91
 inn:InAt wx K s
 but:But K w.heap.size w wx
 lt:K<w.heap.size
section
variable {w wx wy:World} {K:Nat} {BX:Array Value} {s s':InS}
theorem NtSt.below (h:NtSt w wx K BX s)(hb:Below wx.heap.size wx wy):NtSt w wy K BX s:=
 ⟨h.sc.below hb,h.res.below hb,h.inn.below hb,h.but.trans ((But.of hb).mono h.but.size),h.lt⟩
theorem NtSt.butK (h:NtSt w wx K BX s)(h2:InAt wy K s')(hb:But K wx.heap.size wx wy):NtSt w wy K BX s':=
 ⟨h.sc.but hb (by have:=h.lt;omega),h.res.but hb (by have:=h.lt;omega),h2,h.but.trans (hb.mono h.but.size),h.lt⟩
theorem NtSt.drewN (h:NtSt w wx K BX s)(n:Nat):NtSt w (wx.drewN n) K BX s:=h.below (below_drewN (Below.refl _ _) n)
theorem NtSt.mk0 (h:InAt w K s)(BX:Array Value):
 NtSt w ((w.alloc (.cells BX 192)).alloc (.cells #[.string ⟨#[]⟩,.string ⟨#[]⟩,.int .i64 0] 91)) K BX s:=by
 have b1:=(Bx.new w BX 192).alloc (.cells #[.string ⟨#[]⟩,.string ⟨#[]⟩,.int .i64 0] 91);have b2:=Bx.new (w.alloc (.cells BX 192)) #[.string ⟨#[]⟩,.string ⟨#[]⟩,.int .i64 0] 91;rw [World.size_alloc] at b2;exact⟨b1,b2,(h.alloc _).alloc _,.of (((Below.refl _ w).alloc (Nat.le_refl _) _).alloc (by simp) _),h.lt⟩
end
theorem ZdK (s:InS)(e a:Nat)(he:e≠0):(s.fail e a).e≠0:=by
 unfold InS.fail;split
 · exact he
 · next h=>exact fun e0=>h ⟨e0,he⟩
theorem Zik:∀b,Zr b≤b.length
 |[]=>Nat.le_refl _
 |x::r=>by have:=Zik r;simp only [Zr,List.length_cons];split<;>omega
theorem ZjY (fb:Nat)(det:Bool)(s s':InS)(nt:Nt)(h:ZbE (lfC fb det) s=(nt,s'))(he:s'.e=0):
 ∃(b:List UInt8) (at_:Nat),ZS s=(b,at_,s')∧Zr b≠0∧b[Zr b]? =some 61∧lfC fb det (b.drop (Zr b+1))= .ok nt.leaf∧nt.name=b.take (Zr b):=by
 obtain⟨b,a,s1,e1⟩:∃b a s1,ZS s=(b,a,s1):=⟨_,_,_,rfl⟩
 unfold ZbE at h;rw [e1] at h;simp only at h;split at h
 · next h0=>injection h with _ h2;rw [←h2] at he;exact absurd he h0
 · split at h
   · injection h with _ h2;rw [←h2] at he;exact absurd he (ZdK _ _ _ (by decide))
   · next h1=>
     have h1a:Zr b≠0:=fun e=>h1 (.inl e);have h1b:b[Zr b]? =some 61:=Classical.byContradiction fun e=>h1 (.inr e);unfold Zdc at h;split at h
     · next l hl=>
       simp only [Prod.mk.injEq] at h;obtain⟨h2,h3⟩:=h;subst h2 h3;exact⟨b,a,e1,h1a,h1b,hl,rfl⟩
     · simp only [Prod.mk.injEq] at h;rw [←h.2] at he;exact absurd he (ZdK _ _ _ (by rename_i e _ hl;unfold lfC at hl;split at hl<;>cases hl;exact(by omega:(2:Nat)≠0)))
theorem Zn7 (s:InS)(e a:Nat):(s.fail e a).base=s.base∧(s.fail e a).n=s.n:=by unfold InS.fail;split<;>exact⟨rfl,rfl⟩
theorem ZqG (s:InS)(k:Nat)(hf:s.n≤s.t.length):(s.take k).2.base=s.base∧(s.take k).2.n≤s.t.length:=by
 unfold InS.take;split
 · exact⟨rfl,hf⟩
 · split
   · have:=Zn7 s 1 (s.place s.t.length);exact⟨this.1,by show(s.fail 1 _).n≤_;rw [this.2];exact hf⟩
   · exact⟨rfl,by show s.n+k≤s.t.length;omega⟩
theorem Zd4 (s:InS)(k:Nat):(s.small k).2.t=s.t:=Zhk s _
theorem Zk8 (s:InS)(hf:s.n≤s.t.length)(hr:s.base+s.t.length≤1000000000):(ZS s).2.1≤1000000000:=by
 have h1:(s.small 4).2.base=s.base∧(s.small 4).2.n≤s.t.length:=ZqG s _ hf;unfold ZS;simp only;unfold InS.at_ InS.place ZeW;split<;>omega
theorem ZlE (K:Nat)(s s':InS)(kd bud:Int)(fb:Nat)(det:Bool)(hfb:fb≤9)(nt:Nt)(hn:ZbE (lfC fb det) s=(nt,s'))(he:s'.e=0)(hlen:s.t.length≤100000)(w:World)(hG:Grd w)(h:InAt w K s):
 Calls Tryz.prog 120 #[.agg (ZaV K kd bud fb det)] w (ZD K w (.agg #[.string (B nt.name),.string (B nt.leaf.text),.int .i64 (nt.leaf.set:Nat)]) s'):=by
 obtain⟨b,k,hsz,hn0,h61,hlf,hnm⟩:=ZjY fb det s s' nt hn he;have hszd:=fun w h=>Zie K s kd bud fb det w h;unfold ZD at hszd;rw [hsz] at hszd;simp only at hszd;have hbl:b.length≤100000:=by
  have e:b=(ZS s).1:=by rw [hsz]
  rw [e];unfold ZS;simp only;refine Nat.le_trans (Zlp _ _) ?_;have:(s.small 4).2.t=s.t:=Zd4 s 4;rw [this];exact hlen
 have hfl:=fun w h=>ZbQ K s' w h;rw [he] at hfl;have hbd:=fun w=>ZT 0 s'.a rfl w;have hah:=fun w=>ZhC b (by omega) w;have hkl:k≤1000000000:=by
  have e:k=(ZS s).2.1:=(by rw [hsz]);rw [e];exact Zk8 s h.fits h.room
 have hab:=Zik b;obtain⟨hut,hvl⟩:=ZjI hlf;have hle:∀w,Grd w→InAt w K s'→Calls Tryz.prog 118 #[.agg (ZaV K kd bud fb det),.string (B (b.drop (Zr b+1))),.int .i64 ((k+Zr b+1:Nat):Int)] w (ZD K w (.agg #[.string (B nt.leaf.text),.int .i64 (nt.leaf.set:Nat)]) s'):=fun w hG h=>by
  rw [hvl];exact ZhN K s' kd bud fb det (b.drop (Zr b+1)) (by simp;omega) hut _ w hG h
 unfold ZD at hle;clear hvl hut;obtain⟨hlt6,hb6⟩:∃hh:Zr b<b.length,b[Zr b]'hh=61:=List.getElem?_eq_some_iff.1 h61;have hge:=Zbp b (Zr b) hlt6;rw [hb6] at hge;have q1:((Zr b:Int)==0)=false:=by rw [beq_eq_false_iff_ne];omega
 have q2:((Zr b:Int)==(b.length:Int))=false:=by rw [beq_eq_false_iff_ne];omega
 have hsz2:=Zm b;have e1:(B b).extract 0 (Zr b)=B nt.name:=by rw [hnm,Zbx];simp
 have e2:(B b).extract (Zr b+1) b.length=B (b.drop (Zr b+1)):=by rw [Zbx,List.take_of_length_le (by simp)]
 have E1:=Lib.hid e1;have E2:=Lib.hid e2;have ST:=Lib.hid (NtSt.mk0 h (ZaV K kd bud fb det));have G0:=Lib.hid hG;generalize Zr b=n at*;generalize B nt.name=NM at*;generalize B nt.leaf.text=TX at*;generalize hP:ZD K w (.agg #[.string NM,.string TX,.int .i64 (nt.leaf.set:Nat)]) s'=P at*;have hP2:∀w',InAt w' K s'→But K w.heap.size w w'→P (.returned (.agg #[.string NM,.string TX,.int .i64 (nt.leaf.set:Nat)])) w':=fun w' h1 h2=>by rw [←hP];exact⟨rfl,h1,h2⟩
 have HP:=Lib.hid hP2;clear hP hP2 e1 e2 hn hsz h61 hlf hnm hG;obtain⟨x0,x1,x2,x3,x4⟩:=ST.out.sc.five;unfold ZaV at*;go_enter Tryz.func120,Tryz.ntmps120
 go_wp2_with (first
  |(go_at_call 117;refine(hszd _ ST.out.inn).mono ?_;rintro e w1 ⟨rfl,h1,hb1⟩;have S1:=Lib.hid (ST.out.butK h1 hb1);have y0:=S1.out.sc.cell 0;clear h1 hb1)
  |(go_at_call 55;refine(hfl _ S1.out.inn).mono ?_;rintro e w2 ⟨rfl,hb2⟩;have S2:=Lib.hid (S1.out.below hb2);clear hb2)
  |(go_at_call 8;refine(hbd _).mono ?_;rintro e w3 ⟨rfl,hb3⟩;have S3:=Lib.hid (S2.out.below hb3);clear hb3)
  |(go_at_call 193;refine(hah _).mono ?_;rintro e w4 ⟨rfl,hb4⟩;have S4:=Lib.hid (S3.out.below hb4);clear hb4))
 go_region
 go_wp2_with fail
 have E2':=E2.out;have E1':=E1.out;have wr1:IntKind.i64.wrap ((n:Int)+1)=(n:Int)+1:=by rw [IntKind.wrap_i64];omega
 have wr2:IntKind.i64.wrap ((k:Int)+n)=(k:Int)+n:=by rw [IntKind.wrap_i64];omega
 have wr3:IntKind.i64.wrap ((k:Int)+n+1)=(k:Int)+n+1:=by rw [IntKind.wrap_i64];omega
 have b1:(0:Int)≤(n:Int)+1:=by omega
 have b2:(n:Int)+1≤(b.length:Int):=by omega
 have b3:(0:Int)≤(n:Int):=by omega
 have b4:(n:Int)≤(b.length:Int):=by omega
 have b5:((n:Int)+1).toNat=n+1:=by omega
 go_region_held3 (fun w'=>w'.cell? ⟨w.heap.size,0,none⟩=some (.pointer (some ⟨K,0,none⟩))∧w'.cell? ⟨w.heap.size,1,none⟩=some (.int .i64 kd)∧w'.cell? ⟨w.heap.size,2,none⟩=some (.int .i64 (fb:Int))∧w'.cell? ⟨w.heap.size,3,none⟩=some (.bool det)∧w'.cell? ⟨w.heap.size,4,none⟩=some (.int .i64 bud))
  (first|exact(S4.out.drewN 1).sc.five|exact(S4.out.drewN 2).sc.five|exact S4.out.sc.five|with_reducible exact S5.out.sc.five|with_reducible exact(((S5.out.sc.set (k:=w.heap.size+1) (by omega) 0 _).set (k:=w.heap.size+1) (by omega) 1 _).set (k:=w.heap.size+1) (by omega) 2 _).five)
  (first|(go_at_call 118;refine(hle _ (G0.out.but h (S4.out.drewN 2).but) (S4.out.drewN 2).inn).mono ?_;rintro e w5 ⟨rfl,h5,hb5⟩;have S5:=Lib.hid ((S4.out.drewN 2).butK h5 hb5);clear h5 hb5;have r0:=S5.out.res.cell 0;have r1:=S5.out.res.cell 1;have r2:=S5.out.res.cell 2;have g0:=S5.out.res.free 0;have g1:=S5.out.res.free 1;have g2:=S5.out.res.free 2;have y50:=S5.out.sc.cell 0))
 go_wp2_with fail
 have z1:=Bx.three S5.out.res (.string NM) (.string TX) (.int .i64 (nt.leaf.set:Nat));have hltK:=h.lt;refine bodyPost_ret (results_cell_row rfl _ _ (w.heap.size+1) _ _ _ _ rfl z1 Tryz.underlying91 rfl (by kernel_rfl)) rfl ?_;exact HP.out _ (((S5.out.inn.set (by omega) 0 _).set (by omega) 1 _).set (by omega) 2 _) (((S5.out.but.setCell (p:=⟨w.heap.size+1,0,none⟩) (.inl (Nat.le_succ _)) _).setCell (p:=⟨w.heap.size+1,1,none⟩) (.inl (Nat.le_succ _)) _).setCell (p:=⟨w.heap.size+1,2,none⟩) (.inl (Nat.le_succ _)) _)
end Go.Proofs.YtnbkfkbcpfkddaaGreatDoor
namespace Go.Proofs.YtnbkfkbcpfkddaaGreatDoor
open Go Go.RowKit Go.ChangeShapes Go.WideShapes Go.Deep
theorem ZfW {α:Type} {R:Nat→α→Prop}:∀n:Nat,(∀i,i<n→∃p,R i p)→∃l:List α,l.length=n∧∀i p,l[i]? =some p→R i p
 |0,_=>⟨[],rfl,by simp⟩
 |n+1,h=>by
  obtain⟨l,hl,hR⟩:=ZfW n fun i hi=>h i (by omega);obtain⟨p,hp⟩:=h n (by omega);refine⟨l++[p],by simp [hl],fun i q hq=> ?_⟩;rcases Nat.lt_or_ge i n with h1|h1
  · rw [List.getElem?_append_left (by omega)] at hq;exact hR i q hq
  · have hlt:=(List.getElem?_eq_some_iff.1 hq).1;simp only [List.length_append,List.length_singleton] at hlt;obtain rfl:i=n:=by omega
    rw [List.getElem?_append_right (by omega),hl,Nat.sub_self] at hq;simp at hq;subst hq;exact hp
section
variable {H:Type} {enc:TypeId×Value→H} {w:World} {base:Nat} {spare:Nat→Bool} {held:Bool}
end
theorem ZkL {α:Type} (m:Nat)(f:α→List Value)(hf:∀x,(f x).length=m)(hm:0<m){w:World} {a:Addr} {l:List α} (hR:∀i p,l[i]? =some p→∀j,j<m→w.cell? (a.add (i*m+j))=(f p)[j]?):RdN m f w w.heap.size (some a) l:=by
 refine⟨ZcC m f hf l,fun hn=>⟨a,rfl,?_,fun j u hu=> ?_⟩⟩
 · have hx:=List.getElem?_eq_getElem hn;have h0:=hR 0 _ hx 0 hm;have hsome:∃u,(f l[0])[0]? =some u:=⟨_,List.getElem?_eq_getElem (by rw [hf];exact hm)⟩
   obtain⟨u,hu⟩:=hsome;have:=World.block_lt_of_cell? _ _ (h0.trans hu)
   rwa [ZB] at this
 · have hj:j<l.length*m:=by rw [←ZcC m f hf l];exact(List.getElem?_eq_some_iff.1 hu).1
   have hjm:j / m<l.length:=Nat.div_lt_of_lt_mul (by rw [Nat.mul_comm];exact hj);have hmod:j % m<m:=Nat.mod_lt _ hm;have hx:=List.getElem?_eq_getElem hjm;have h1:=Zgo m f hf l (j / m) (j % m) _ hx hmod;have e:j / m*m+j % m=j:=by rw [Nat.mul_comm];exact Nat.div_add_mod j m
   rw [e] at h1;rw [h1] at hu;have h2:=hR (j / m) _ hx (j % m) hmod;rw [e] at h2;rw [h2,hu]
section
variable {H:Type} {enc:TypeId×Value→H} {w:World} {base:Nat} {spare:Nat→Bool} {held:Bool}
theorem Zpe {fuel:Nat} {cs:List Value} {x:DataW H×List MemPlace} (h:DataW.trod enc Tryz.prog w base spare held fuel 39 cs=some x):∃(kd fb bud:Int) (det:Bool),cs=[.int .i64 kd,.int .i64 fb,.bool det,.int .i64 bud]:=by
 obtain⟨xs,n,_,_,hl,hxl,hg⟩:=DataW.trod_struct Tryz.underlying39 h;have hC:Tryz.prog.cellsOf 39=4:=by kernel_rfl
 rw [hC] at hl;have o0:Tryz.prog.cellsOf 37=1:=by kernel_rfl
 have o1:Tryz.prog.cellsOf 28=1:=by kernel_rfl
 have o2:Tryz.prog.cellsOf 4=1:=by kernel_rfl
 have o3:Tryz.prog.cellsOf 3=1:=by kernel_rfl
 have hx:∀j,j<4→∃y,xs[j]? =some y:=fun j hj=>⟨_,List.getElem?_eq_getElem (by rw [hxl];exact hj)⟩
 obtain⟨y0,e0⟩:=hx 0 (by omega);obtain⟨y1,e1⟩:=hx 1 (by omega);obtain⟨y2,e2⟩:=hx 2 (by omega);obtain⟨y3,e3⟩:=hx 3 (by omega);have g0:=hg 0 _ rfl;have g1:=hg 1 _ rfl;have g2:=hg 2 _ rfl;have g3:=hg 3 _ rfl;rw [e0] at g0;rw [e1] at g1;rw [e2] at g2;rw [e3] at g3
 match cs,hl with
 |[c0,c1,c2,c3],_=>
  change DataW.trod enc Tryz.prog w base spare held n 37 ((([c0,c1,c2,c3]:List Value).drop 0).take (Tryz.prog.cellsOf 37))=some y0 at g0
  rw [o0] at g0;change DataW.trod enc Tryz.prog w base spare held n 37 [c0]=some y0 at g0
  change DataW.trod enc Tryz.prog w base spare held n 28 ((([c0,c1,c2,c3]:List Value).drop 1).take (Tryz.prog.cellsOf 28))=some y1 at g1
  rw [o1] at g1;change DataW.trod enc Tryz.prog w base spare held n 28 [c1]=some y1 at g1
  change DataW.trod enc Tryz.prog w base spare held n 4 ((([c0,c1,c2,c3]:List Value).drop 2).take (Tryz.prog.cellsOf 4))=some y2 at g2
  rw [o2] at g2;change DataW.trod enc Tryz.prog w base spare held n 4 [c2]=some y2 at g2
  change DataW.trod enc Tryz.prog w base spare held n 3 ((([c0,c1,c2,c3]:List Value).drop 3).take (Tryz.prog.cellsOf 3))=some y3 at g3
  rw [o3] at g3;change DataW.trod enc Tryz.prog w base spare held n 3 [c3]=some y3 at g3
  obtain⟨z0,d0,_,_⟩:=DataW.trod_int Tryz.underlying37 g0;obtain⟨z1,d1,_,_⟩:=DataW.trod_int Tryz.underlying28 g1;obtain⟨b2,d2,_⟩:=DataW.trod_bool Tryz.underlying4 g2;obtain⟨z3,d3,_,_⟩:=DataW.trod_int Tryz.underlying3 g3;injection d0 with d0
  injection d1 with d1
  injection d2 with d2
  injection d3 with d3
  subst d0 d1 d2 d3;exact⟨z0,z1,z3,b2,rfl⟩
end
end Go.Proofs.YtnbkfkbcpfkddaaGreatDoor
