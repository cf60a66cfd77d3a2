/- Lemmas for a statement on the tops; conditions: as each says. -/
import Derived.Test.YtlfinljfghhpdaaGreatDoorM26
set_option linter.unusedVariables false
set_option linter.unusedSimpArgs false
set_option maxRecDepth 100000
set_option maxHeartbeats 1000000
namespace Go.Proofs.YtlfinljfghhpdaaGreatDoor
open Go Go.RowKit
def NtRel (ps:List Int)(n:Nat)(w0:World)(v1 v5:Value)(wr:World):Prop:=∃k i:Nat,Run ps k i∧k≤n∧v1= .int .i64 ((n - k:Nat):Int)∧v5= .int .i64 i∧Below w0.heap.size w0 wr
theorem ZgH (s:ByteArray)(ps:List Int)(hg:Good s ps)(n:Nat)(hn:n<ps.length)(hs:s.size≤100000)(w:World):
 Calls Tryz.prog 109 #[.string s,.int .i64 n] w fun e w'=>e= .returned (.int .i32 (ps.getD n 0))∧Below w.heap.size w w':=by
 have hlen:=hg.len;have hp4:=hg.pre;have HP:Hid (∀w',Below w.heap.size w w'→(fun e w'=>e=Ending.returned (.int .i32 (ps.getD n 0))∧Below w.heap.size w w') (.returned (.int .i32 (ps.getD n 0))) w'):=Lib.hid fun w' hb=>⟨rfl,hb⟩
 generalize (fun(e:Ending) (w':World)=>e=Ending.returned (.int .i32 (ps.getD n 0))∧Below w.heap.size w w')=P at*;go_enter Tryz.func109,Tryz.ntmps109
 go_wp2_with fail
 go_loopw [1,5] (fun v1 v5 wr=>NtRel ps n w v1 v5 wr) (fun v1 _ _=>(intOf v1).toNat)
 case atStart=>exact⟨0,0,Run.zero _,by omega,rfl,rfl,Below.refl _ _⟩
 case round=>
  obtain⟨k,i,hrun,hk,rfl,rfl,hb⟩:=hrel;obtain⟨p,m,hst,hrun',hn1,hn4,hin,hp0,hp1,_⟩:=hrun.step hp4 (by omega);have hat:=fun W=>ZbH hst (by omega) (by omega) W;have hpk:p=ps.getD k 0:=hst.2.2.1;have Hpk:=Lib.hid hpk;clear hpk hst;have hm0:((m:Int)==0)=false:=by rw [beq_eq_false_iff_ne];omega
  by_cases hkn:k=n
  · subst hkn;have h0:(((k - k:Nat):Int)==0)=true:=by simp
    rw [Nat.sub_self];go_wp2_with (go_at_call 16;refine(hat _).mono ?_;rintro e w1 ⟨rfl,hb1⟩)
    show P (.returned (.int .i32 p)) _
    rw [Hpk.out];exact HP.out _ (hb.trans (hb1.mono hb.size))
  · have h0:(((n - k:Nat):Int)==0)=false:=by rw [beq_eq_false_iff_ne];omega
    go_wp2_with (go_at_call 16;refine(hat _).mono ?_;rintro e w1 ⟨rfl,hb1⟩)
    refine⟨⟨k+1,i+m,hrun',by omega,by congr 1;omega,by simp,hb.trans (hb1.mono hb.size)⟩,by simp [intOf];omega⟩
def ZaM (c n:Nat)(fr ff fo:Nat→Int):Int:=
 if c=0∨n<128 then n
 else if c=3 then
  if n<176 then(1040+n - 128:Int) else if n<224 then ff (n - 176) else if n<240 then(1088+n - 224:Int) else fo (n - 240)
 else if c=2 then((ukrL.find? fun x=>x.1==n).map (·.2)).getD (fr (n - 128))
 else fr (n - 128)
theorem Zm7 (c n:Nat):ZJ c n=ZaM c n (fun k=>Za5.getD k 0) (fun k=>Zbd.getD k 0) (fun k=>Zbi.getD k 0):=rfl
theorem ZmV:Good (lB (Zb Za5)) Za5:=Zdp fun p hp=>List.all_eq_true.1 ZmU p hp
theorem Zk4:Good (lB (Zb Zbd)) Zbd:=Zdp fun p hp=>List.all_eq_true.1 Zk3 p hp
theorem Zl9:Good (lB (Zb Zbi)) Zbi:=Zdp fun p hp=>List.all_eq_true.1 Zl8 p hp
theorem Zpi (c:Nat)(x:UInt8)(w:World):
 Calls Tryz.prog 48 #[.int .i64 c,.int .u8 x.toNat] w fun e w'=>e= .returned (.int .i32 (ZJ c x.toNat))∧Below w.heap.size w w':=by
 have hx:=x.toNat_lt;generalize x.toNat=n at*;have hr:∀k:Nat,k<128→∀W,Calls Tryz.prog 109 #[.string (lB (Zb Za5)),.int .i64 k] W fun e w'=>e= .returned (.int .i32 ((fun k:Nat=>Za5.getD k 0) k))∧Below W.heap.size W w':=fun k hk W=>ZgH _ _ ZmV k hk (by rw [ZmV.size];decide) W;have hf:∀k:Nat,k<48→∀W,Calls Tryz.prog 109 #[.string (lB (Zb Zbd)),.int .i64 k] W fun e w'=>e= .returned (.int .i32 ((fun k:Nat=>Zbd.getD k 0) k))∧Below W.heap.size W w':=fun k hk W=>ZgH _ _ Zk4 k hk (by rw [Zk4.size];decide) W;have ho:∀k:Nat,k<16→∀W,Calls Tryz.prog 109 #[.string (lB (Zb Zbi)),.int .i64 k] W fun e w'=>e= .returned (.int .i32 ((fun k:Nat=>Zbi.getD k 0) k))∧Below W.heap.size W w':=fun k hk W=>ZgH _ _ Zl9 k hk (by rw [Zl9.size];decide) W;have HP:Hid (∀w' z,ZJ c n=z→Below w.heap.size w w'→(fun e w'=>e=Ending.returned (.int .i32 (ZJ c n))∧Below w.heap.size w w') (.returned (.int .i32 z)) w'):=Lib.hid fun w' z hz hb=>by rw [←hz];exact⟨rfl,hb⟩
 rw [Zm7 c n] at HP;rw [Zm7 c n];refine calls_of_wp Tryz.func48 rfl ?_;rw [Zd1 (Zb Zbd)]
 rotate_left
 kernel_rfl
 rw [Zd1 (Zb Zbi)]
 rotate_left
 kernel_rfl
 rw [Zd1 (Zb Za5)]
 rotate_left
 kernel_rfl
 generalize lB (Zb Za5)=b1 at*;generalize lB (Zb Zbd)=b2 at*;generalize lB (Zb Zbi)=b3 at*;generalize (fun k=>Za5.getD k 0)=fr at*;generalize (fun k=>Zbd.getD k 0)=ff at*;generalize (fun k=>Zbi.getD k 0)=fo at*;generalize (fun(e:Ending) (w':World)=>e=Ending.returned (.int .i32 (ZaM c n fr ff fo))∧Below w.heap.size w w')=P at*;simp only [Tryz.ntmps48,List.size_toArray,List.length_cons,List.length_nil,Nat.reduceAdd,Nat.reduceSub,Array.replicate_succ,Array.replicate_zero,List.push_toArray,List.append_toArray,List.nil_append,List.cons_append];by_cases h0:c=0
 · have e0:((c:Int)==0)=true:=by rw [h0];rfl
   go_wp2_with fail
   show P (.returned (.int .i32 ((n:Int)))) _
   exact HP.out _ _ (by unfold ZaM;rw [if_pos (.inl h0)]) (Below.refl _ _)
 have e0:((c:Int)==0)=false:=by rw [beq_eq_false_iff_ne];omega
 by_cases h1:n<128
 · have h1':(n:Int)<128:=by omega
   go_wp2_with fail
   show P (.returned (.int .i32 ((n:Int)))) _
   exact HP.out _ _ (by unfold ZaM;rw [if_pos (.inr h1)]) (Below.refl _ _)
 have h1':¬((n:Int)<128):=by omega
 by_cases h3:c=3
 · have e3:((c:Int)==3)=true:=by rw [h3];rfl
   have hz:∀z,(if n<176 then(1040+n - 128:Int) else if n<224 then ff (n - 176) else if n<240 then(1088+n - 224:Int) else fo (n - 240))=z→ZaM c n fr ff fo=z:=fun z h=>by unfold ZaM;rw [if_neg (by omega),if_pos h3];exact h
   have Hz:=Lib.hid hz;clear hz;by_cases a1:n<176
   · have a1':(n:Int)<176:=by omega
     go_wp2_with fail
     show P (.returned (.int .i32 ((1040+n - 128:Int)))) _
     exact HP.out _ _ (Hz.out _ (by rw [if_pos a1])) (Below.refl _ _)
   have a1':¬((n:Int)<176):=by omega
   by_cases a2:n<224
   · have a2':(n:Int)<224:=by omega
     have hc1:=hf (n - 176) (by omega);rw [show((n - 176:Nat):Int)=(n:Int) - 176 by omega] at hc1;go_wp2_with (go_at_call 109;refine(hc1 _).mono ?_;rintro e w1 ⟨rfl,hb1⟩)
     show P (.returned (.int .i32 (ff (n - 176)))) _
     exact HP.out _ _ (Hz.out _ (by rw [if_neg a1,if_pos a2])) hb1
   have a2':¬((n:Int)<224):=by omega
   by_cases a3:n<240
   · have a3':(n:Int)<240:=by omega
     go_wp2_with fail
     show P (.returned (.int .i32 ((1088+n - 224:Int)))) _
     exact HP.out _ _ (Hz.out _ (by rw [if_neg a1,if_neg a2,if_pos a3])) (Below.refl _ _)
   have a3':¬((n:Int)<240):=by omega
   have hc1:=ho (n - 240) (by omega);rw [show((n - 240:Nat):Int)=(n:Int) - 240 by omega] at hc1;go_wp2_with (go_at_call 109;refine(hc1 _).mono ?_;rintro e w1 ⟨rfl,hb1⟩)
   show P (.returned (.int .i32 (fo (n - 240)))) _
   exact HP.out _ _ (Hz.out _ (by rw [if_neg a1,if_neg a2,if_neg a3])) hb1
 have e3:((c:Int)==3)=false:=by rw [beq_eq_false_iff_ne];omega
 have hc1:=hr (n - 128) (by omega);rw [show((n - 128:Nat):Int)=(n:Int) - 128 by omega] at hc1;by_cases h2:c=2
 · have e2:((c:Int)==2)=true:=by rw [h2];rfl
   by_cases n164:n=164
   · have d164:((n:Int)==164)=true:=by rw [n164];rfl
     have hz:ZaM c n fr ff fo=1108:=by rw [n164,h2];rfl
     have Hz:=Lib.hid hz;have Hn:=Lib.hid n164;clear hz n164 h2;go_wp2_with fail
     show P (.returned (.int .i32 (1108))) _
     exact HP.out _ _ (Hz.out) (Below.refl _ _)
   have d164:((n:Int)==164)=false:=by rw [beq_eq_false_iff_ne];omega
   by_cases n166:n=166
   · have d166:((n:Int)==166)=true:=by rw [n166];rfl
     have hz:ZaM c n fr ff fo=1110:=by rw [n166,h2];rfl
     have Hz:=Lib.hid hz;have Hn:=Lib.hid n166;clear hz n166 h2;go_wp2_with fail
     show P (.returned (.int .i32 (1110))) _
     exact HP.out _ _ (Hz.out) (Below.refl _ _)
   have d166:((n:Int)==166)=false:=by rw [beq_eq_false_iff_ne];omega
   by_cases n167:n=167
   · have d167:((n:Int)==167)=true:=by rw [n167];rfl
     have hz:ZaM c n fr ff fo=1111:=by rw [n167,h2];rfl
     have Hz:=Lib.hid hz;have Hn:=Lib.hid n167;clear hz n167 h2;go_wp2_with fail
     show P (.returned (.int .i32 (1111))) _
     exact HP.out _ _ (Hz.out) (Below.refl _ _)
   have d167:((n:Int)==167)=false:=by rw [beq_eq_false_iff_ne];omega
   by_cases n173:n=173
   · have d173:((n:Int)==173)=true:=by rw [n173];rfl
     have hz:ZaM c n fr ff fo=1169:=by rw [n173,h2];rfl
     have Hz:=Lib.hid hz;have Hn:=Lib.hid n173;clear hz n173 h2;go_wp2_with fail
     show P (.returned (.int .i32 (1169))) _
     exact HP.out _ _ (Hz.out) (Below.refl _ _)
   have d173:((n:Int)==173)=false:=by rw [beq_eq_false_iff_ne];omega
   by_cases n180:n=180
   · have d180:((n:Int)==180)=true:=by rw [n180];rfl
     have hz:ZaM c n fr ff fo=1028:=by rw [n180,h2];rfl
     have Hz:=Lib.hid hz;have Hn:=Lib.hid n180;clear hz n180 h2;go_wp2_with fail
     show P (.returned (.int .i32 (1028))) _
     exact HP.out _ _ (Hz.out) (Below.refl _ _)
   have d180:((n:Int)==180)=false:=by rw [beq_eq_false_iff_ne];omega
   by_cases n182:n=182
   · have d182:((n:Int)==182)=true:=by rw [n182];rfl
     have hz:ZaM c n fr ff fo=1030:=by rw [n182,h2];rfl
     have Hz:=Lib.hid hz;have Hn:=Lib.hid n182;clear hz n182 h2;go_wp2_with fail
     show P (.returned (.int .i32 (1030))) _
     exact HP.out _ _ (Hz.out) (Below.refl _ _)
   have d182:((n:Int)==182)=false:=by rw [beq_eq_false_iff_ne];omega
   by_cases n183:n=183
   · have d183:((n:Int)==183)=true:=by rw [n183];rfl
     have hz:ZaM c n fr ff fo=1031:=by rw [n183,h2];rfl
     have Hz:=Lib.hid hz;have Hn:=Lib.hid n183;clear hz n183 h2;go_wp2_with fail
     show P (.returned (.int .i32 (1031))) _
     exact HP.out _ _ (Hz.out) (Below.refl _ _)
   have d183:((n:Int)==183)=false:=by rw [beq_eq_false_iff_ne];omega
   by_cases n189:n=189
   · have d189:((n:Int)==189)=true:=by rw [n189];rfl
     have hz:ZaM c n fr ff fo=1168:=by rw [n189,h2];rfl
     have Hz:=Lib.hid hz;have Hn:=Lib.hid n189;clear hz n189 h2;go_wp2_with fail
     show P (.returned (.int .i32 (1168))) _
     exact HP.out _ _ (Hz.out) (Below.refl _ _)
   have d189:((n:Int)==189)=false:=by rw [beq_eq_false_iff_ne];omega
   have hz:ZaM c n fr ff fo=fr (n - 128):=by
    unfold ZaM;rw [if_neg (by omega),if_neg h3,if_pos h2,show(ukrL.find? fun x=>x.1==n)=none by
     rw [List.find?_eq_none];intro x hx;simp only [ukrL,List.mem_cons,List.not_mem_nil,or_false] at hx;rcases hx with rfl|rfl|rfl|rfl|rfl|rfl|rfl|rfl<;>simp<;>omega]
    rfl
   have Hz:=Lib.hid hz;clear hz n164 n166 n167 n173 n180 n182 n183 n189;go_wp2_with (go_at_call 109;refine(hc1 _).mono ?_;rintro e w1 ⟨rfl,hb1⟩)
   show P (.returned (.int .i32 (fr (n - 128)))) _
   exact HP.out _ _ (Hz.out) hb1
 have e2:((c:Int)==2)=false:=by rw [beq_eq_false_iff_ne];omega
 go_wp2_with (go_at_call 109;refine(hc1 _).mono ?_;rintro e w1 ⟨rfl,hb1⟩)
 show P (.returned (.int .i32 (fr (n - 128)))) _
 exact HP.out _ _ (by unfold ZaM;rw [if_neg (by omega),if_neg h3,if_neg h2]) hb1
theorem ZgV (f:Nat→Int)(p:Int):∀N,N≤256→(∀j,j<N→f j≠p)→Zl ((List.range N).map fun m=>(m,f m)) p=none
 |0,_,_=>rfl
 |N+1,hN,h=>by
  rw [List.range_succ,List.map_append,List.map_cons,List.map_nil,Zfm,ZgV f p N (by omega) (fun j hj=>h j (by omega)),if_neg (fun e=>h N (by omega) e.1)];rfl
theorem Zkd (f:Nat→Int)(p:Int)(k:Nat)(hk:k<256)(h:∀j,j<k→f j≠p)(he:f k=p):∀N,k<N→N≤256→Zl ((List.range N).map fun m=>(m,f m)) p=some k
 |0,h1,_=>by omega
 |N+1,h1,hN=>by
  rw [List.range_succ,List.map_append,List.map_cons,List.map_nil,Zfm];by_cases e:k=N
  · subst e;rw [ZgV f p k (by omega) h,if_pos ⟨he,hk⟩];rfl
  · rw [Zkd f p k hk h he N (by omega) (by omega)];rfl
def byZ (o:Option Nat):Int:=match o with
 |some n=>(n:Int)
 |none=> -1
theorem Zpj (c n:Nat)(hn:n<256)(w:World):
 Calls Tryz.prog 48 #[.int .i64 c,.int .u8 (n:Int)] w fun e w'=>e= .returned (.int .i32 (ZJ c n))∧Below w.heap.size w w':=by
 have h:=Zpi c n.toUInt8 w;rw [show n.toUInt8.toNat=n by simp;omega] at h;exact h
def ByRel (c:Nat)(p:Int)(w0:World)(i:Value)(wr:World):Prop:=∃k:Nat,k≤256∧i= .int .i64 k∧(∀j,j<k→ZJ c j≠p)∧Below w0.heap.size w0 wr
theorem ZoZ (c:Nat)(p:Int)(w:World):
 Calls Tryz.prog 22 #[.int .i64 c,.int .i32 p] w fun e w'=>e= .returned (.int .i64 (byZ (Zl (Zi c) p)))∧Below w.heap.size w w':=by
 have HP:Hid (∀o w',Zl (Zi c) p=o→Below w.heap.size w w'→(fun e w'=>e=Ending.returned (.int .i64 (byZ (Zl (Zi c) p)))∧Below w.heap.size w w') (.returned (.int .i64 (byZ o))) w'):=Lib.hid fun o w' h hb=>by rw [←h];exact⟨rfl,hb⟩
 generalize (fun(e:Ending) (w':World)=>e=Ending.returned (.int .i64 (byZ (Zl (Zi c) p)))∧Below w.heap.size w w')=P at*;go_enter Tryz.func22,Tryz.ntmps22
 go_wp2_with fail
 go_loopw [5] (fun i wr=>ByRel c p w i wr) (fun i _=>256 - (intOf i).toNat)
 case atStart=>exact⟨0,by omega,rfl,fun j hj=>by omega,Below.refl _ _⟩
 case round=>
  obtain⟨k,hk,rfl,hno,hb⟩:=hrel;have Hno:=Lib.hid hno;clear hno;by_cases hlt:k<256
  · have hlt':(k:Int)<256:=by omega
    have hw8:IntKind.u8.wrap (k:Int)=k:=by simp [IntKind.wrap,IntKind.bits,IntKind.signed];omega
    have hsg:=fun W=>Zpj c k hlt W;by_cases he:ZJ c k=p
    · have e0:(ZJ c k==p)=true:=by rw [he];simp
      have Hr:=Lib.hid (Zkd (ZJ c) p k hlt Hno.out he 256 hlt (Nat.le_refl _));clear he;go_wp2_with (go_at_call 48;refine(hsg _).mono ?_;rintro e w1 ⟨rfl,hb1⟩)
      show P (.returned (.int .i64 (byZ (some k)))) _
      exact HP.out (some k) _ Hr.out (hb.trans (hb1.mono hb.size))
    · have e0:(ZJ c k==p)=false:=by rw [beq_eq_false_iff_ne];exact he
      have He:=Lib.hid he;clear he;go_wp2_with (go_at_call 48;refine(hsg _).mono ?_;rintro e w1 ⟨rfl,hb1⟩)
      go_roundw
      case rel=>exact⟨k+1,by omega,by simp,fun j hj=>by by_cases e:j=k;exact e▸He.out;exact Hno.out j (by omega),hb.trans (hb1.mono hb.size)⟩
      case measure=>simp [intOf];omega
  · obtain rfl:k=256:=by omega
    have Hr:=Lib.hid (ZgV (ZJ c) p 256 (Nat.le_refl _) Hno.out);go_wp2_with fail
    show P (.returned (.int .i64 (byZ none))) _
    exact HP.out none _ Hr.out hb
theorem Zqy {w w1:World} (h:Below w.heap.size w w1){o:Obj}:Below w.heap.size w (w1.alloc o):=h.alloc h.size o
def Zfd (r:List UInt8⊕Nat):Value:=match r with
 | .inl bs=> .tuple #[.string ⟨bs.toArray⟩,.int .i64 (-1)]
 | .inr j=> .tuple #[.string ⟨#[]⟩,.int .i64 (j:Int)]
def Zfc (r:List UInt8⊕Nat)(w0:World)(e:Ending)(w':World):Prop:=e= .returned (Zfd r)∧Below w0.heap.size w0 w'
def ReRel (c:Nat)(ps:List Int)(w0:World)(v6 v7 i:Value)(wr:World):Prop:=∃(k:Nat) (cs:List Nat),k≤ps.length∧i= .int .i64 k∧(ps.take k).map (Zl (Zi c))=cs.map some∧v6= .string ⟨(cs.map Nat.toUInt8).toArray⟩∧v7= .int .i64 ((Zb (ps.take k)).length:Nat)∧Below w0.heap.size w0 wr
theorem Zo5 (c:Nat)(A:Option Addr)(cap:Nat)(ps:List Int)(hps:∀p∈ps,Ze p=true)(hl:ps.length≤2000000)(w:World)(hn:ZA w w.heap.size .i32 A ps):
 Calls Tryz.prog 12 #[.int .i64 c,.slice A ps.length cap] w (Zfc (ecF (Zl (Zi c)) ps 0) w):=by
 have HP:Hid (∀r w',ecF (Zl (Zi c)) ps 0=r→Below w.heap.size w w'→Zfc (ecF (Zl (Zi c)) ps 0) w (.returned (Zfd r)) w'):=Lib.hid fun r w' h1 h2=>by rw [h1];exact⟨rfl,h2⟩
 generalize Zfc (ecF (Zl (Zi c)) ps 0) w=P at*;have HN:=Lib.hid hn;have Hps:=Lib.hid hps;clear hn hps;go_enter Tryz.func12,Tryz.ntmps12
 go_wp2_with fail
 go_loopw [6,7,8] (fun v6 v7 i wr=>ReRel c ps w v6 v7 i wr) (fun _ _ i _=>ps.length - (intOf i).toNat)
 case atStart=>exact⟨0,[],by omega,rfl,rfl,rfl,rfl,Below.refl _ _⟩
 case round=>
  obtain⟨k,cs,hk,rfl,hcs,rfl,rfl,hb⟩:=hrel;have hcl:cs.length=k:=by have:=congrArg List.length hcs;simp at this;omega
  have h4:=(Zah (ps.take k)).2;rw [List.length_take] at h4;by_cases hlt:k<ps.length
  · have hnk:=HN.out.below hb;obtain⟨ad,p,rfl,hadb,hc,hp,hm⟩:=hnk.get hlt;have hpk:ps[k]? =some p:=by rw [List.getElem?_eq_getElem hlt];have:=hp.out;rw [List.getD_eq_getElem?_getD,List.getElem?_eq_getElem hlt] at this;simpa using this
    have hby:=fun W=>ZoZ c p W;cases hcd:Zl (Zi c) p with
    |none=>
     rw [hcd,show byZ none= -1 from rfl] at hby;have Hr:=Lib.hid (Zhg (Zl (Zi c)) k ps cs 0 p hcs hpk hcd);rw [Nat.zero_add] at Hr;have hneg:((-1:Int)<0):=by omega
     clear hcs hpk hcd hm hp hnk hcl;generalize (Zb (ps.take k)).length=at_ at*;generalize (⟨(cs.map Nat.toUInt8).toArray⟩:ByteArray)=s6 at*;go_wp2_with (go_at_call 22;refine(hby _).mono ?_;rintro e w1 ⟨rfl,hb1⟩)
     show P (.returned (.tuple #[.string ⟨#[]⟩,.int .i64 (at_:Nat)])) _
     exact HP.out (.inr at_) _ Hr.out (hb.trans (hb1.mono hb.size))
    |some m=>
     rw [hcd,show byZ (some m)=(m:Int) from rfl] at hby;obtain⟨hm256,_⟩:=ZgU hcd;have hm256':(m:Int)<256:=by omega
     have hw8:IntKind.u8.wrap (m:Int)=m:=by simp [IntKind.wrap,IntKind.bits,IntKind.signed];omega
     have hmod:(m:Int) % 256=m:=by omega
     have hzw:=hb.size;have hsc:=Hps.out p hm;have he:=Zbx p;have k1:=fun(W:World) (cp:Nat)=>Zg6 (P:=Tryz.prog) 79 9 5 Tryz.underlying79 Tryz.underlying5 Tryz.underlying9 W (m:Int) cp;have hs1:strOfNums [(m:Int)]=⟨([m.toUInt8]:List UInt8).toArray⟩:=ZlS [m];simp only [hs1] at k1;have hcs2:=Lib.hid (show(ps.take (k+1)).map (Zl (Zi c))=(cs++[m]).map some by rw [List.take_add_one,hpk,List.map_append,hcs,List.map_append];show _++[Zl (Zi c) p]=_;rw [hcd];rfl);have htx:=Lib.hid (show(Zb (ps.take (k+1))).length=(Zb (ps.take k)).length+(Lib.encodeRune p).length by rw [List.take_add_one,hpk];show(Zb (_++[p])).length=_;rw [ZeR,List.length_append]);have hst:=Lib.hid (show(⟨((cs++[m]).map Nat.toUInt8).toArray⟩:ByteArray)=⟨(cs.map Nat.toUInt8).toArray⟩++⟨([m.toUInt8]:List UInt8).toArray⟩ by rw [List.map_append];exact(ZhU _ _).symm);have hsz:(⟨(cs.map Nat.toUInt8).toArray⟩:ByteArray).size≤2000000:=by show((cs.map Nat.toUInt8).toArray).size≤_;simp;omega
     clear hcs hpk hcd hm hp hcl hs1;generalize (Zb (ps.take k)).length=at_ at*;generalize (⟨(cs.map Nat.toUInt8).toArray⟩:ByteArray)=s6 at*;go_wp2_with (first
      |(go_at_call 22;refine(hby _).mono ?_;rintro e w1 ⟨rfl,hb1⟩;have hc1:=(hb1.cell (p:=ad.add k) (by rw [ZaE];omega)).trans hc;have hzw1:=hb1.size;have hc2:(w1.alloc (.cells #[.int .u8 (m:Int)] 5)).cell? (ad.add k)=some (.int .i32 p):=(World.cell?_alloc_lt _ _ _ (by rw [ZaE];omega)).trans hc1)
      |(go_at_call 23;refine(Za7 hsc _).mono ?_;rintro e w2 ⟨rfl,hb2⟩))
     go_roundw
     case rel=>exact⟨k+1,cs++[m],by omega,by simp,hcs2.out,by rw [hst.out],by rw [htx.out];simp,(hb.trans ((Zqy hb1).mono hb.size)).trans (hb2.mono (by simp;omega))⟩
     case measure=>simp [intOf];omega
  · obtain rfl:k=ps.length:=by omega
    rw [List.take_length] at hcs;have Hr:=Lib.hid (Zhf (Zl (Zi c)) ps cs 0 hcs);have Hf:Hid (∀w',Below w.heap.size w w'→P (.returned (.tuple #[.string ⟨(cs.map Nat.toUInt8).toArray⟩,.int .i64 (-1)])) w'):=Lib.hid fun w' hb=>HP.out (.inl (cs.map Nat.toUInt8)) w' Hr.out hb;clear hcs Hr HP;generalize (⟨(cs.map Nat.toUInt8).toArray⟩:ByteArray)=s6 at*;go_wp2_with fail
    exact Hf.out _ hb
theorem Zm4 {c:Nat} (hc:c≤3):∀x∈Zi c, -2147483648≤x.2∧x.2<2147483648:=fun x hx=>by
 unfold Zi at hx;obtain⟨n,hn,rfl⟩:=List.mem_map.1 hx;have:=ZeL (Zm8 hc (List.mem_range.1 hn));simp only;omega
theorem Zjk {c:Nat} (hc:c≤3){A:Option Addr} {cp:Nat} {q:Int} {rs:List (Rw×Sl)} (b:ByteArray)(hL:Zq rs=Zi c)(hb:b.size≤100000)(hn:rs.length≤4096)(w:World)(h:TbR w w.heap.size A rs)(hT:Zj w):
 Calls Tryz.prog 156 #[.agg #[.slice A rs.length cp,.int .i64 q],.string b] w fun e w'=>e= .returned (.tuple #[.string (tB (b.data.toList.map fun x=>ZJ c x.toNat)),.agg #[.int .i64 0,.int .i64 0]])∧Below w.heap.size w w':=by
 have h1:=Zpw A cp q rs b (Zi c) hL (Zm4 hc) hb (by omega) w h hT;unfold Ze1 at h1;rw [dc_set] at h1;exact h1
theorem Zok {c:Nat} (hc:c≤3){A:Option Addr} {cp:Nat} {q:Int} {rs:List (Rw×Sl)} (s:ByteArray)(ps:List Int)(hg:Good s ps)(hL:Zq rs=Zi c)(hs:s.size≤100000)(hn:rs.length≤4096)(w:World)(h:TbR w w.heap.size A rs)(hT:Zj w):
 Calls Tryz.prog 328 #[.agg #[.slice A rs.length cp,.int .i64 q],.string s] w fun e w'=>e= .returned (Ze4 (ecF (Zl (Zi c)) ps 0))∧Below w.heap.size w w':=
 Zpx A cp q rs s ps hg (Zi c) hL (Zm4 hc) hs (by omega) w h hT
theorem aw_dec:tB (([193,194]:List UInt8).map fun x=>ZJ 1 x.toNat)=⟨#[208,176,208,177]⟩:=by
 have h:Zb (([193,194]:List UInt8).map fun x=>ZJ 1 x.toNat)=[208,176,208,177]:=by decide+kernel
 unfold tB;rw [h]
theorem aw_enc:Ze4 (ecF (Zl (Zi 0)) [1028] 0)= .tuple #[.string ⟨#[]⟩,.agg #[.int .i64 6,.int .i64 0]]:=by
 have h:(match ecF (Zl (Zi 0)) [1028] 0 with| .inr 0=>true|_=>false)=true:=by decide+kernel
 have h2:ecF (Zl (Zi 0)) [1028] 0= .inr 0:=by
  generalize ecF (Zl (Zi 0)) [1028] 0=r at h;split at h
  · rfl
  · cases h
 rw [h2];rfl
theorem two_c {w:World} {K:Nat} {a b:Value} {T:TypeId} {fr:Nat×Nat} (h:w.heap[K]? =some (.cells #[a,b] T fr)):w.cell? ⟨K,0,none⟩=some a∧w.cell? ⟨K,1,none⟩=some b:=
 ⟨by rw [cell_of_row _ K 0 _ _ _ h];rfl,by rw [cell_of_row _ K 1 _ _ _ h];rfl⟩
theorem stw {w W W':World} (h:Hid (Below w.heap.size w W∧Zj W))(hb:Below W.heap.size W W'):Hid (Below w.heap.size w W'∧Zj W'):=
 Lib.hid ⟨h.out.1.trans (hb.mono h.out.1.size),Zaz h.out.2 hb (Nat.le_refl _)⟩
theorem al {w:World} (o:Obj):Below w.heap.size w (w.alloc o):=(Below.refl _ _).alloc (Nat.le_refl _) _
theorem tb_bl {w w':World} {A:Option Addr} {rs:List (Rw×Sl)} (h:TbR w w.heap.size A rs)(hb:Below w.heap.size w w'):TbR w' w'.heap.size A rs:=(h.below hb).more hb.size
theorem tb_al {w:World} {A:Option Addr} {rs:List (Rw×Sl)} (h:TbR w w.heap.size A rs)(o:Obj):TbR (w.alloc o) (w.alloc o).heap.size A rs:=tb_bl h (al o)
theorem ZnR (w:World)(hT:Zj w)(a2:∀wx,Below w.heap.size w wx→Calls Tryz.prog 180 #[] wx fun e w'=>e= .returned (.bool true)∧Below wx.heap.size wx w')(a4:∀wx,Below w.heap.size w wx→Calls Tryz.prog 329 #[] wx fun e w'=>e= .returned (.bool true)∧Below wx.heap.size wx w'):
 Calls Tryz.prog 263 #[] w fun e w'=>e= .returned (.bool true)∧Below w.heap.size w w':=by
 have HP:Hid (∀w',Below w.heap.size w w'→(fun e w'=>e=Ending.returned (.bool true)∧Below w.heap.size w w') (.returned (.bool true)) w'):=Lib.hid fun w' hb=>⟨rfl,hb⟩
 generalize (fun(e:Ending) (w':World)=>e=Ending.returned (.bool true)∧Below w.heap.size w w')=P at*;have ho1:=fun W h=>SOf_1 W h;have ho0:=fun W h=>SOf_0 W h;unfold ZaY at ho1 ho0;have G0:Hid (Below w.heap.size w w∧Zj w):=Lib.hid ⟨Below.refl _ _,hT⟩;go_enter Tryz.func263,Tryz.ntmps263
 go_wp2_with fail
 refine(ho1 _ hT).mono ?_;rintro e w1 ⟨A1,c1,rs1,rfl,h11,h12,h13,h14,hb1⟩;have G1:=stw (stw G0 hb1) (al (.cells #[.slice A1 rs1.length c1,.int .i64 1] 213));have HR1:=Lib.hid (tb_al h13 (.cells #[.slice A1 rs1.length c1,.int .i64 1] 213));have H14:=Lib.hid h14;clear h13 h14 hb1 ho1;go_wp2_with fail
 have hd:=fun hT=>Zjk (c:=1) (by decide) (A:=A1) (cp:=c1) (q:=1) ⟨#[193,194]⟩ H14.out (by decide) h12 _ HR1.out hT;rw [show(ByteArray.mk #[193,194]).data.toList=[193,194] from rfl,aw_dec] at hd;refine(hd G1.out.2).mono ?_;rintro e w2 ⟨rfl,hb2⟩;clear hd;have G2:=stw (stw G1 hb2) (al (.cells #[.int .i64 0,.int .i64 0] 33));have F4:=Lib.hid (heap_alloc_new w2 (.cells #[.int .i64 0,.int .i64 0] 33));clear hb2;go_wp2_with fail
 refine(ho0 _ G2.out.2).mono ?_;rintro e w3 ⟨A3,c3,rs3,rfl,h31,h32,h33,h34,hb3⟩;have G3:=stw (stw G2 hb3) (al (.cells #[.slice A3 rs3.length c3,.int .i64 0] 213));have F4b:=Lib.hid (Zs (Zs F4.out hb3) (al (.cells #[.slice A3 rs3.length c3,.int .i64 0] 213)));have HR3:=Lib.hid (tb_al h33 (.cells #[.slice A3 rs3.length c3,.int .i64 0] 213));have H34:=Lib.hid h34;clear h33 h34 hb3 ho0 F4;go_wp2_with fail
 have hd:=fun hT=>Zok (c:=0) (by decide) (A:=A3) (cp:=c3) (q:=0) ⟨#[208,132]⟩ [1028] ⟨rfl,by decide⟩ H34.out (by decide) h32 _ HR3.out hT;rw [aw_enc] at hd;refine(hd G3.out.2).mono ?_;rintro e w4 ⟨rfl,hb4⟩;clear hd;have G4:=stw (stw G3 hb4) (al (.cells #[.int .i64 6,.int .i64 0] 33));have F4c:=Lib.hid (Zs (Zs F4b.out hb4) (al (.cells #[.int .i64 6,.int .i64 0] 33)));have F8:=Lib.hid (heap_alloc_new w4 (.cells #[.int .i64 6,.int .i64 0] 33));clear hb4 F4b;go_wp2_with fail
 refine(a2 _ G4.out.1).mono ?_;rintro e w5 ⟨rfl,hb5⟩;have G5:=stw G4 hb5;have F4d:=Lib.hid (Zs F4c.out hb5);have F8b:=Lib.hid (Zs F8.out hb5);clear hb5 F4c F8;go_wp2_with fail
 refine(a4 _ G5.out.1).mono ?_;rintro e w6 ⟨rfl,hb6⟩;have G6:=stw G5 hb6;have F4e:=Lib.hid (Zs F4d.out hb6);have F8c:=Lib.hid (Zs F8b.out hb6);obtain⟨p0,p1⟩:=two_c F4e.out;clear hb6 F4d F8b;go_wp2_with fail
 refine(Zgo 0 0 _).mono ?_;rintro e w7 ⟨rfl,hb7⟩;have G7:=stw G6 hb7;obtain⟨q0,q1⟩:=two_c (Zs F8c.out hb7);clear hb7 p0 p1;go_wp2_with fail
 exact HP.out _ G7.out.1
end Go.Proofs.YtlfinljfghhpdaaGreatDoor
