/- Lemmas for a statement on the tops; conditions: as each says. -/
import Derived.Test.YtecandjkbbpooaaGreatDoorM17
set_option linter.unusedVariables false
set_option linter.unusedSimpArgs false
set_option maxRecDepth 100000
set_option maxHeartbeats 4000000
namespace Go.Proofs.YtecandjkbbpooaaGreatDoor
open Go Go.RowKit
def Zc1 (v:Nat)(id:List UInt8):Bool:=decide (0<Zx v)&&(id.length==Zx v&&Zal id==Zx v)
theorem Zoi (v:Int)(id:List UInt8)(hid:id.length≤1000000000)(w:World):
 Calls Tryz.prog 225 #[.int .i64 v,.string (B id)] w fun e w'=>e= .returned (.bool (Zc1 v.toNat id))∧w=w':=by
 have hLt:=fun w=>ZeU v w;have hwr:=fun w=>ZjN id hid w;have hsz:=Zl id;obtain⟨R,hR⟩:∃R,R=Zc1 v.toNat id:=⟨_,rfl⟩
 unfold Zc1 at hR;rw [show Zc1 v.toNat id=R by rw [hR];rfl];generalize Zx v.toNat=n at*;by_cases h1:0<n
 · by_cases h2:id.length=n
   · by_cases h3:Zal id=n
     · have e2:((id.length:Int)==(n:Int))=true:=by rw [h2];simp
       have e3:((Zal id:Int)==(n:Int))=true:=by rw [h3];simp
       have HR:Hid (R=true):=Lib.hid (by rw [hR];simp [h1,h2,h3]);clear hR h2 h3;go_enter Tryz.func225,Tryz.ntmps225
       go_wp2_with (first|(go_at_call 147;refine(hLt _).mono ?_;rintro e w1 ⟨rfl,rfl⟩)|(go_at_call 255;refine(hwr _).mono ?_;rintro e w1 ⟨rfl,rfl⟩))
       go_ret
       exact⟨by rw [HR.out];rfl,rfl⟩
     · have e2:((id.length:Int)==(n:Int))=true:=by rw [h2];simp
       have e3:((Zal id:Int)==(n:Int))=false:=by rw [beq_eq_false_iff_ne];omega
       have HR:Hid (R=false):=Lib.hid (by rw [hR];simp [h3]);clear hR h2 h3;go_enter Tryz.func225,Tryz.ntmps225
       go_wp2_with (first|(go_at_call 147;refine(hLt _).mono ?_;rintro e w1 ⟨rfl,rfl⟩)|(go_at_call 255;refine(hwr _).mono ?_;rintro e w1 ⟨rfl,rfl⟩))
       go_ret
       exact⟨by rw [HR.out];rfl,rfl⟩
   · have e2:((id.length:Int)==(n:Int))=false:=by rw [beq_eq_false_iff_ne];omega
     have HR:Hid (R=false):=Lib.hid (by rw [hR];simp [h2]);clear hR h2;go_enter Tryz.func225,Tryz.ntmps225
     go_wp2_with (go_at_call 147;refine(hLt _).mono ?_;rintro e w1 ⟨rfl,rfl⟩)
     go_ret
     exact⟨by rw [HR.out];rfl,rfl⟩
 · have e1:n=0:=by omega
   have HR:Hid (R=false):=Lib.hid (by rw [hR];simp [e1]);rw [e1] at hLt;clear hR h1 e1;go_enter Tryz.func225,Tryz.ntmps225
   go_wp2_with (go_at_call 147;refine(hLt _).mono ?_;rintro e w1 ⟨rfl,rfl⟩)
   go_ret
   exact⟨by rw [HR.out];rfl,rfl⟩
def wfF (v:Nat)(f:Fr):Bool:=v==2&&(f.st !=0||f.fm !=0)
def wgF (v:Nat)(f:Fr):Bool:=f.grp !=0&& !Z7 v f.fm
def okF (v:Nat)(f:Fr):Bool:=Zc1 v f.id&&(!wfF v f&& !wgF v f)
def ckF (v:Nat)(f:Fr):Int:=if okF v f then 0 else 5
theorem ZfI (f:Fr)(v:Int)(hid:f.id.length≤1000000000)(w:World):
 Calls Tryz.prog 148 #[.agg #[.string (B f.id),.int .u8 f.st.toNat,.int .u8 f.fm.toNat,.int .u8 f.grp.toNat,.string (B f.body),.int .i64 f.at_],.int .i64 v] w fun e w'=>e= .returned (.agg #[.int .i64 (ckF v.toNat f),.int .i64 0])∧Below w.heap.size w w':=by
 generalize hP:(fun(e:Ending) (w':World)=>e= .returned (.agg #[.int .i64 (ckF v.toNat f),.int .i64 0])∧Below w.heap.size w w')=P at*;have hnm:=fun w=>Zoi v f.id hid w;have hgr:=fun w=>ZfL (B f.id) f.st f.fm v w;have hst:=Zdk f.st;have hfm:=Zdk f.fm;have hgp:=Zdk f.grp;have Hc:Hid (ckF v.toNat f=if Zc1 v.toNat f.id&&(!wfF v.toNat f&& !wgF v.toNat f) then 0 else 5):=Lib.hid rfl;have Hwf:Hid (wfF v.toNat f=(v.toNat==2&&(f.st !=0||f.fm !=0))):=Lib.hid rfl;have Hwg:Hid (wgF v.toNat f=(f.grp !=0&& !Z7 v.toNat f.fm)):=Lib.hid rfl;generalize ckF v.toNat f=cc at*;generalize wfF v.toNat f=wf at*;generalize wgF v.toNat f=wg at*;generalize Zc1 v.toNat f.id=nm at*;generalize Z7 v.toNat f.fm=gg at*;generalize hs0:(f.st !=0)=st0 at*;generalize hf0:(f.fm !=0)=fm0 at*;generalize hg0:(f.grp !=0)=gp0 at*;clear hs0 hf0 hg0;go_enter Tryz.func148,Tryz.ntmps148
 go_upto_region 1 with fail
 obtain⟨W,hW⟩:∃W,W=(w.alloc (.cells (six f) 34)).alloc (.cells #[.int .i64 0,.int .i64 0] 62):=⟨_,rfl⟩
 have b1:Bx W w.heap.size (six f) 34:=by rw [hW];exact(Bx.new w _ _).alloc _
 have b2:Bx W (w.heap.size+1) #[.int .i64 0,.int .i64 0] 62:=by
  rw [hW];have:=Bx.new (w.alloc (.cells (six f) 34)) #[.int .i64 0,.int .i64 0] 62;rw [World.size_alloc] at this;exact this
 have hlow:Below w.heap.size w W:=by rw [hW];exact((Below.refl _ _).alloc (Nat.le_refl _) _).alloc (by simp) _
 have HW:=Lib.hid hW;clear hW;go_cut [5] (fun s5 wx=>s5= .bool wf∧wx=W)
 case first=>
  have hw:=Hwf.out;by_cases h2:v=2
  · subst h2;rw [show((2:Int).toNat==2)=true from rfl,Bool.true_and] at hw;have Hw:=Lib.hid hw;clear hw;cases st0 with
    |true=>
     go_wp2_with fail
     go_meet
     exact⟨by rw [Hw.out];rfl,HW.out.symm⟩
    |false=>
     go_wp2_with fail
     go_meet
     exact⟨by rw [Hw.out];rfl,HW.out.symm⟩
  · have e2:(v==2)=false:=by simpa using h2
    rw [show(v.toNat==2)=false by rw [beq_eq_false_iff_ne];omega,Bool.false_and] at hw;have Hw:=Lib.hid hw;clear hw h2;go_wp2_with fail
    go_meet
    exact⟨by rw [Hw.out],HW.out.symm⟩
 obtain⟨rfl,rfl⟩:=hcut;clear HW;obtain⟨c0,c1,c2,c3,c4,c5⟩:=Zp.get b1;have hl:=b1.lt;have hl2:=b2.lt;go_upto_region 2 with fail
 go_cut [6] (fun s6 wx=>s6= .bool wg∧Bx wx (w.heap.size+1) #[.int .i64 0,.int .i64 0] 62∧Below w.heap.size w wx∧Zp wx w.heap.size f)
 case first=>
  have hw:=Hwg.out;cases gp0 with
  |true=>
   rw [Bool.true_and] at hw;have Hw:=Lib.hid hw;clear hw;cases gg with
   |true=>
    go_wp2_with (go_at_call 224;refine(hgr _).mono ?_;rintro e w1 ⟨rfl,hb1⟩)
    go_meet
    exact⟨by rw [Hw.out];rfl,b2.below hb1,hlow.trans (hb1.mono hlow.size),Bx.below b1 hb1⟩
   |false=>
    go_wp2_with (go_at_call 224;refine(hgr _).mono ?_;rintro e w1 ⟨rfl,hb1⟩)
    go_meet
    exact⟨by rw [Hw.out];rfl,b2.below hb1,hlow.trans (hb1.mono hlow.size),Bx.below b1 hb1⟩
  |false=>
   rw [Bool.false_and] at hw;have Hw:=Lib.hid hw;clear hw;go_wp2_with fail
   go_meet
   exact⟨by rw [Hw.out],b2,hlow,b1⟩
 obtain⟨rfl,b3,low3,fr3⟩:=hcut;have B3:=Lib.hid b3;have L3:=Lib.hid low3;clear c0 c1 c2 c3 c4 c5 hl hl2 b1 b2 hlow low3;obtain⟨c0,c1,c2,c3,c4,c5⟩:=Zp.get fr3;have x0:=b3.cell 0;have x1:=b3.cell 1;have xf:=b3.free;have hl2:=b3.lt;clear b3 fr3;cases nm<;>cases wf<;>cases wg
 all_goals
  go_wp2_with (go_at_call 225;refine(hnm _).mono ?_;rintro e w1 ⟨rfl,rfl⟩)
  have hcc:=Hc.out;simp at hcc;subst hcc
  first
  |(have F:=Za9 B3.out (.int .i64 0) (.int .i64 0)
    refine bodyPost_ret (results_cell_row rfl _ _ (w.heap.size+1) _ _ _ _ rfl F Tryz.underlying62 rfl (by kernel_rfl)) rfl ?_;rw [←hP];exact⟨rfl,(L3.out.setCell (p:=⟨w.heap.size+1,0,none⟩) (Nat.le_succ _) _).setCell (p:=⟨w.heap.size+1,1,none⟩) (Nat.le_succ _) _⟩)
  |(have F:=Za9 B3.out (.int .i64 5) (.int .i64 0)
    refine bodyPost_ret (results_cell_row rfl _ _ (w.heap.size+1) _ _ _ _ rfl F Tryz.underlying62 rfl (by kernel_rfl)) rfl ?_;rw [←hP];exact⟨rfl,(L3.out.setCell (p:=⟨w.heap.size+1,0,none⟩) (Nat.le_succ _) _).setCell (p:=⟨w.heap.size+1,1,none⟩) (Nat.le_succ _) _⟩)
theorem Zrn (v:Nat)(f:Fr):(Zg v f).length=f.body.length+(if Z7 v f.fm then 1 else 0)+(if Zap v f.fm then 4 else 0)+(if ZaG v f.fm then ZaE f.body else 0):=by
 have:=ZdX f.body;have h4:(ZO f.body.length).length=4:=rfl;simp only [Zg,List.length_append];split<;>split<;>split<;>simp only [List.length_singleton,List.length_nil]<;>omega
structure FBx (w0 wx:World)(f:Fr):Prop where
 fr:Zp wx w0.heap.size f
 low:Below w0.heap.size w0 wx
theorem FBx.below {w0 w w':World} {f:Fr} (h:FBx w0 w f)(hb:Below w.heap.size w w'):FBx w0 w' f:=⟨h.fr.below hb,h.low.trans (hb.mono h.low.size)⟩
theorem Zi7 (f:Fr)(v:Int)(hbd:f.body.length≤400000000)(w:World):
 Calls Tryz.prog 226 #[.agg #[.string (B f.id),.int .u8 f.st.toNat,.int .u8 f.fm.toNat,.int .u8 f.grp.toNat,.string (B f.body),.int .i64 f.at_],.int .i64 v] w fun e w'=>e= .returned (.int .i64 (Zg v.toNat f).length)∧Below w.heap.size w w':=by
 have hgr:=fun w=>ZfL (B f.id) f.st f.fm v w;have hms:=fun w=>Zg1 (B f.id) f.st f.fm v w;have hsp:=fun w=>ZgX (B f.id) f.st f.fm v w;have hex:=fun w=>ZgW f.body (by omega) w;have hel:=Zdh f.body;have hsz:=Zl f.body;have Hil:=Lib.hid (Zrn v.toNat f);generalize (Zg v.toNat f).length=IL at*;generalize Z7 v.toNat f.fm=G at*;generalize Zap v.toNat f.fm=M at*;generalize ZaG v.toNat f.fm=S at*;generalize ZaE f.body=E at*;obtain⟨n1,hn1⟩:∃n1:Nat,n1=f.body.length+if G then 1 else 0:=⟨_,rfl⟩
 obtain⟨n2,hn2⟩:∃n2:Nat,n2=n1+if M then 4 else 0:=⟨_,rfl⟩
 have hb1:n1≤400000001:=by rw [hn1];split<;>omega
 have hb2:n2≤400000005:=by rw [hn2];split<;>omega
 have H1:=Lib.hid hn1;have H2:=Lib.hid hn2;clear hn1 hn2;have ST0:Hid (FBx w (w.alloc (.cells (six f) 34)) f):=Lib.hid ⟨Bx.new w _ _,(Below.refl _ _).alloc (Nat.le_refl _) _⟩;obtain⟨c0,c1,c2,c3,c4,c5⟩:=ST0.out.fr.get;go_enter Tryz.func226,Tryz.ntmps226
 go_upto_if 12 with(go_at_call 224;refine(hgr _).mono ?_;rintro e w1 ⟨rfl,hb1⟩;have ST1:=Lib.hid (ST0.out.below hb1);clear hb1 c0 c1 c2 c3 c4 c5)
 obtain⟨c0,c1,c2,c3,c4,c5⟩:=ST1.out.fr.get;go_cut [5] (fun s5 wx=>s5= .int .i64 n1∧FBx w wx f)
 case first=>
  cases G with
  |true=>
   have Hq:=Lib.hid (show(f.body.length:Int)+1=n1 by rw [H1.out];simp);go_wp2_with fail
   go_meet
   exact⟨by rw [Hq.out],ST1.out⟩
  |false=>
   have Hq:=Lib.hid (show(f.body.length:Int)=n1 by rw [H1.out];simp);go_wp2_with fail
   go_meet
   exact⟨by rw [Hq.out],ST1.out⟩
 obtain⟨rfl,hcut⟩:=hcut;have ST2:=Lib.hid hcut;clear hcut c0 c1 c2 c3 c4 c5;obtain⟨c0,c1,c2,c3,c4,c5⟩:=ST2.out.fr.get
 go_upto_if 18 with(go_at_call 227;refine(hms _).mono ?_;rintro e w2 ⟨rfl,hb2⟩;have ST3:=Lib.hid (ST2.out.below hb2);clear hb2 c0 c1 c2 c3 c4 c5)
 obtain⟨c0,c1,c2,c3,c4,c5⟩:=ST3.out.fr.get;go_cut [5] (fun s5 wx=>s5= .int .i64 n2∧FBx w wx f)
 case first=>
  cases M with
  |true=>
   have Hq:=Lib.hid (show(n1:Int)+4=n2 by rw [H2.out];simp);go_wp2_with fail
   go_meet
   exact⟨by rw [Hq.out],ST3.out⟩
  |false=>
   have Hq:=Lib.hid (show(n1:Int)=n2 by rw [H2.out];simp);go_wp2_with fail
   go_meet
   exact⟨by rw [Hq.out],ST3.out⟩
 obtain⟨rfl,hcut⟩:=hcut;have ST4:=Lib.hid hcut;clear hcut c0 c1 c2 c3 c4 c5;obtain⟨c0,c1,c2,c3,c4,c5⟩:=ST4.out.fr.get;cases S with
 |true=>
  have Hq:=Lib.hid (show(n2:Int)+E=IL by have:=Hil.out;rw [this,H2.out,H1.out];simp);go_wp2_with (first
   |(go_at_call 228;refine(hsp _).mono ?_;rintro e w3 ⟨rfl,hb3⟩;have ST5:=Lib.hid (ST4.out.below hb3);clear hb3 c0 c1 c2 c3 c4 c5;obtain⟨c0,c1,c2,c3,c4,c5⟩:=ST5.out.fr.get)
   |(go_at_call 151;refine(hex _).mono ?_;rintro e w4 ⟨rfl,rfl⟩))
  go_ret
  exact⟨ZbU Hq.out,ST5.out.low⟩
 |false=>
  have Hq:=Lib.hid (show(n2:Int)=IL by have:=Hil.out;rw [this,H2.out,H1.out];simp);go_wp2_with (go_at_call 228;refine(hsp _).mono ?_;rintro e w3 ⟨rfl,hb3⟩;have ST5:=Lib.hid (ST4.out.below hb3);clear hb3 c0 c1 c2 c3 c4 c5;obtain⟨c0,c1,c2,c3,c4,c5⟩:=ST5.out.fr.get)
  go_ret
  exact⟨ZbU Hq.out,ST5.out.low⟩
def sV (y:List UInt8):Value:= .string (B y)
theorem Zmx:(Tryz.prog.info? 9).map (fun i=>(i.zero,i.size,i.bytes))=some (some (.string ⟨#[]⟩),1,16):=by kernel_rfl
section
variable {ops:Array Oper} {rest:List Oper} {o:Oper} {a:Act} {Q:Exit→Act→World→Prop}
theorem Zbo (hgd:o.guard=none)(s x:Operand)(ho:o.op= .call {callee:= .builtin .append,args:=#[s,x],argTypes:=#[90,90]}) (base:Nat) (v:Value) (L:List (List UInt8)) (hs:a.eval s=v) (W:World) (y:List UInt8)
 (hown:W.ownsRow base 9 1 v L.length (L.map sV)) (hbase:base≤W.heap.size) (hlen:L.length≤16777216) (hx:a.eval x= .slice (some ⟨W.heap.size,0,none⟩) 1 1)
 (h:∀v' w',Hid (w'.ownsRow base 9 1 v' (L++[y]).length ((L++[y]).map sV))→Below base W w'→W.grownBy w' v.ownBlock→wpList Tryz.prog ops Q rest (a.put o.dst v') w'):
 wpList Tryz.prog ops Q (o::rest) a (W.alloc (.cells #[.string (B y)] 9)):=by
 obtain⟨i0,hi,iz0,iz1,iz2⟩:=info_parts Zmx;refine wpList_append_own _ hgd s x 90 ho base 9 i0 _ 1 16 Tryz.underlying90 hi iz0 iz1 iz2 rfl (by decide) v L.length _ hs (hown.alloc _) ⟨W.heap.size,0,none⟩ 1 1 [sV y] hx rfl (Zfo W [sV y] _) ?_ (by unfold maxLen;omega) (by omega) (by simp;omega) ?_
 · intro u hu;simp only [List.mem_singleton] at hu;subst hu;rfl
 · intro v6 w6 hown6 hg6 _;refine h v6 w6 (Lib.hid ?_) (Zaa ((Below.refl _ W).alloc hbase _) (hown.alloc _) hg6 (by simp;omega) (Nat.le_refl _)) ⟨hg6.os,hg6.tape,hg6.output,by have:=hg6.size;simp at this;omega,fun k hk hc=>(hg6.block k (by simp;omega) hc).trans (Below.heap_alloc _ _ _ hk)⟩;rw [List.length_append,List.map_append];exact hown6
theorem Zhj (hgd:o.guard=none)(s x:Operand)(ho:o.op= .call {callee:= .builtin .append,args:=#[s,x],argTypes:=#[90,90]}) (base:Nat) (v:Value) (L:List (List UInt8)) (hs:a.eval s=v) (W:World) (y z:List UInt8)
 (hown:W.ownsRow base 9 1 v L.length (L.map sV)) (hbase:base≤W.heap.size) (hlen:L.length≤16777216) (hx:a.eval x= .slice (some ⟨W.heap.size,0,none⟩) 2 2)
 (h:∀v' w',Hid (w'.ownsRow base 9 1 v' (L++[y,z]).length ((L++[y,z]).map sV))→Below base W w'→W.grownBy w' v.ownBlock→wpList Tryz.prog ops Q rest (a.put o.dst v') w'):
 wpList Tryz.prog ops Q (o::rest) a (W.alloc (.cells #[.string (B y),.string (B z)] 9)):=by
 obtain⟨i0,hi,iz0,iz1,iz2⟩:=info_parts Zmx;refine wpList_append_own _ hgd s x 90 ho base 9 i0 _ 1 16 Tryz.underlying90 hi iz0 iz1 iz2 rfl (by decide) v L.length _ hs (hown.alloc _) ⟨W.heap.size,0,none⟩ 2 2 [sV y,sV z] hx rfl (Zfo W [sV y,sV z] _) ?_ (by unfold maxLen;omega) (by omega) (by simp;omega) ?_
 · intro u hu;simp only [List.mem_cons,List.not_mem_nil,or_false] at hu;rcases hu with rfl|rfl<;>rfl
 · intro v6 w6 hown6 hg6 _;refine h v6 w6 (Lib.hid ?_) (Zaa ((Below.refl _ W).alloc hbase _) (hown.alloc _) hg6 (by simp;omega) (Nat.le_refl _)) ⟨hg6.os,hg6.tape,hg6.output,by have:=hg6.size;simp at this;omega,fun k hk hc=>(hg6.block k (by simp;omega) hc).trans (Below.heap_alloc _ _ _ hk)⟩;rw [List.length_append,List.map_append];exact hown6
end
theorem ZkV (l:List (List UInt8)):l.flatMap (fun y=>[sV y])=l.map sV:=by induction l with|nil=>rfl|cons a l ih=>rw [List.flatMap_cons,ih];rfl
theorem Zed {base:Nat} {v:Value} {l:List (List UInt8)} {w:World} (h:w.ownsRow base 9 1 v l.length (l.map sV))(hl:l≠[])(hf:l.flatten.length≤35184372089000)(hn:l.length≤35184372089000):
 Calls Tryz.prog 27 #[v] w fun e w'=>e= .returned (.string (B l.flatten))∧Below w.heap.size w w':=by
 have hr:Zi (fun y=>[sV y]) base w v l:=Zi.of_own (e:=9) (m:=1) rfl (by rw [ZkV];exact h) (fun e=>absurd e hl);rcases hr with⟨h0,_⟩|⟨bk,c,h0,rfl,h2,h5,h3,h4⟩
 · exact absurd h0 hl
 · rw [ZkV] at h4;exact Zok bk c l w (fun j x hx=>h4 j _ (by rw [List.getElem?_map,hx];rfl)) hl h2 hf hn
theorem Zg2 (l:List (List UInt8))(hl:l≠[])(hf:l.flatten.length≤35184372089000)(hn:l.length≤1000)(w:World):
 Calls Tryz.prog 27 #[.slice (some ⟨w.heap.size,0,none⟩) l.length l.length] (w.alloc (.cells (l.map sV).toArray 9)) fun e w'=>e= .returned (.string (B l.flatten))∧Below (w.alloc (.cells (l.map sV).toArray 9)).heap.size (w.alloc (.cells (l.map sV).toArray 9)) w':=by
 have h:=World.ownsRow_lit (base:=w.heap.size) (e:=9) (size:=1) w (l.map sV).toArray l.length (Nat.le_refl _) (by unfold maxLen;omega) (by simp);exact Zed (l:=l) h hl hf (by omega)
theorem ZpA (x:UInt8):Zah x.toNat 1=[x]:=by
 have:=x.toNat_lt;simp only [Zah,Nat.pow_zero,Nat.div_one];rw [Nat.mod_eq_of_lt this];simp
theorem ZdB (x:UInt8)(w:World):Calls Tryz.prog 32 #[.int .u64 x.toNat,.int .i64 1] w fun e w'=>e= .returned (.string (B [x]))∧Below w.heap.size w w':=by
 have h:=ZeQ x.toNat 1 (by have:=x.toNat_lt;omega) (by omega) (by omega) w;rw [ZpA] at h;exact h
def fpR (v:Nat)(f:Fr):Except Nat (List UInt8):=
 if okF v f=false then .error 5 else if 268435455<(Zg v f).length∨(v=2∧16777215<(Zg v f).length) then .error 4 else .ok (Zt v f)
def Zda (w:World)(r:Except Nat (List UInt8))(e:Ending)(w':World):Prop:=Below w.heap.size w w'∧match r with
 | .ok s=>e= .returned (.tuple #[.string (B s),.agg #[.int .i64 0,.int .i64 0]])
 | .error x=>e= .returned (.tuple #[.string ⟨#[]⟩,.agg #[.int .i64 x,.int .i64 0]])∧x≠0
structure QSt (w0 wx:World)(f:Fr):Prop where
 fr:Zp wx w0.heap.size f
 res:Bx wx (w0.heap.size+1) #[.int .i64 0,.int .i64 0] 62
 low:Below w0.heap.size w0 wx
section
variable {w0 w w':World} {f:Fr}
theorem QSt.below (h:QSt w0 w f)(hb:Below w.heap.size w w'):QSt w0 w' f:=⟨h.fr.below hb,h.res.below hb,h.low.trans (hb.mono h.low.size)⟩
theorem QSt.alloc (h:QSt w0 w f)(o:Obj):QSt w0 (w.alloc o) f:=h.below ((Below.refl _ _).alloc (Nat.le_refl _) _)
theorem QSt.drew (h:QSt w0 w f):QSt w0 w.drew f:=h.below (Za8 (Below.refl _ _))
theorem QSt.low2 (h:QSt w0 w f)(hb:Below (w0.heap.size+2) w w'):QSt w0 w' f:=
 ⟨(hb.block _ (by omega)).trans h.fr,(hb.block _ (by omega)).trans h.res,h.low.trans (hb.mono (by omega))⟩
theorem QSt.cells (h:QSt w0 w f):(w.cell? ⟨w0.heap.size,0,none⟩=some (.string (B f.id))∧w.cell? ⟨w0.heap.size,1,none⟩=some (.int .u8 f.st.toNat)∧w.cell? ⟨w0.heap.size,2,none⟩=some (.int .u8 f.fm.toNat)∧w.cell? ⟨w0.heap.size,3,none⟩=some (.int .u8 f.grp.toNat)∧w.cell? ⟨w0.heap.size,4,none⟩=some (.string (B f.body))∧w.cell? ⟨w0.heap.size,5,none⟩=some (.int .i64 f.at_))∧
 (w.cell? ⟨w0.heap.size+1,0,none⟩=some (.int .i64 0)∧w.cell? ⟨w0.heap.size+1,1,none⟩=some (.int .i64 0))∧(∀j,w.frozen? ⟨w0.heap.size+1,j,none⟩=false)∧w0.heap.size<w.heap.size∧w0.heap.size+2≤w.heap.size:=
 ⟨h.fr.get,⟨h.res.cell 0,h.res.cell 1⟩,h.res.free,h.fr.lt,h.res.lt⟩
theorem QSt.fin (h:QSt w0 w f)(x y:Value):Bx ((w.setCell ⟨w0.heap.size+1,0,none⟩ x).setCell ⟨w0.heap.size+1,1,none⟩ y) (w0.heap.size+1) #[x,y] 62∧Below w0.heap.size w0 ((w.setCell ⟨w0.heap.size+1,0,none⟩ x).setCell ⟨w0.heap.size+1,1,none⟩ y):=
 ⟨Za9 h.res x y,(h.low.setCell (p:=⟨w0.heap.size+1,0,none⟩) (Nat.le_succ _) x).setCell (p:=⟨w0.heap.size+1,1,none⟩) (Nat.le_succ _) y⟩
end
theorem ZnG (f:Fr)(v:Int)(h1:f.id.length≤200000000)(h2:f.body.length≤200000000)(hok:okF v.toNat f=false)(w:World):
 Calls Tryz.prog 150 #[.agg #[.string (B f.id),.int .u8 f.st.toNat,.int .u8 f.fm.toNat,.int .u8 f.grp.toNat,.string (B f.body),.int .i64 f.at_],.int .i64 v] w (Zda w (fpR v.toNat f)):=by
 have hR:fpR v.toNat f= .error 5:=by unfold fpR;rw [if_pos hok]
 rw [hR];generalize hP:Zda w (.error 5)=P at*;have hck:=fun w=>ZfI f v (by omega) w;rw [show ckF v.toNat f=5 by unfold ckF;rw [hok];rfl] at hck;have hbd:=fun w=>Zaq 5 0 (by decide) w;have ST0:Hid (QSt w ((w.alloc (.cells (six f) 34)).alloc (.cells #[.int .i64 0,.int .i64 0] 62)) f):=Lib.hid ⟨(Bx.new w _ _).alloc _,by have:=Bx.new (w.alloc (.cells (six f) 34)) #[.int .i64 0,.int .i64 0] 62;rw [World.size_alloc] at this;exact this,((Below.refl _ _).alloc (Nat.le_refl _) _).alloc (by simp) _⟩;clear hok hR;go_enter Tryz.func150,Tryz.ntmps150
 go_wp2_with (first
  |(go_at_call 148;refine(hck _).mono ?_;rintro e w1 ⟨rfl,hb1⟩;have ST1:=Lib.hid (ST0.out.below hb1);clear hb1)
  |(go_at_call 7;refine(hbd _).mono ?_;rintro e w2 ⟨rfl,hb2⟩;have ST2:=Lib.hid ((ST1.out.alloc _).below hb2);have BX:=Lib.hid ((Bx.new w1 _ _).below hb2);clear hb2;obtain⟨⟨c0,c1,c2,c3,c4,c5⟩,⟨r0,r1⟩,rf,l1,l2⟩:=ST2.out.cells;have x0:=BX.out.cell 0;have x1:=BX.out.cell 1;have xl:=BX.out.lt;have hw1:=ST1.out.res.lt))
 go_region
 all_goals
  go_wp2_with fail
  have F:=ST2.out.fin (.int .i64 5) (.int .i64 0);refine bodyPost_ret (ZaT rfl _ _ (w.heap.size+1) _ _ _ _ _ rfl rfl F.1.drew Tryz.underlying62 rfl (by kernel_rfl)) rfl ?_;rw [←hP];exact⟨Za8 F.2,rfl,by decide⟩
theorem ZnH (f:Fr)(v:Int)(h1:f.id.length≤200000000)(h2:f.body.length≤200000000)(hok:okF v.toNat f=true)(hg:268435455<(Zg v.toNat f).length∨(v.toNat=2∧16777215<(Zg v.toNat f).length))(w:World):
 Calls Tryz.prog 150 #[.agg #[.string (B f.id),.int .u8 f.st.toNat,.int .u8 f.fm.toNat,.int .u8 f.grp.toNat,.string (B f.body),.int .i64 f.at_],.int .i64 v] w (Zda w (fpR v.toNat f)):=by
 have hR:fpR v.toNat f= .error 4:=by unfold fpR;rw [if_neg (by rw [hok];decide),if_pos hg]
 rw [hR];generalize hP:Zda w (.error 4)=P at*;have hck:=fun w=>ZfI f v (by omega) w;rw [show ckF v.toNat f=0 by unfold ckF;rw [hok];rfl] at hck;have hbd:=fun w=>ZT 0 0 rfl w;have hln:=fun w=>Zi7 f v (by omega) w;generalize (Zg v.toNat f).length=IL at*;have ST0:Hid (QSt w ((w.alloc (.cells (six f) 34)).alloc (.cells #[.int .i64 0,.int .i64 0] 62)) f):=Lib.hid ⟨(Bx.new w _ _).alloc _,by have:=Bx.new (w.alloc (.cells (six f) 34)) #[.int .i64 0,.int .i64 0] 62;rw [World.size_alloc] at this;exact this,((Below.refl _ _).alloc (Nat.le_refl _) _).alloc (by simp) _⟩;clear hok hR;have fin:∀wx,QSt w wx f→∀(tm:Array Value),tm.getD 4 undef= .string ⟨#[]⟩→tm.getD 5 undef= .pointer (some ⟨w.heap.size+1,0,none⟩)→bodyPost Tryz.prog Tryz.f150 P .ret {tmps:=tm,defers:=[]} ((wx.setCell ⟨w.heap.size+1,0,none⟩ (.int .i64 4)).setCell ⟨w.heap.size+1,1,none⟩ (.int .i64 0)):=by
  intro wx hq tm t4 t5;have F:=hq.fin (.int .i64 4) (.int .i64 0);refine bodyPost_ret (ZaT rfl _ _ (w.heap.size+1) _ _ _ _ _ t4 t5 F.1 Tryz.underlying62 rfl (by kernel_rfl)) rfl ?_;rw [←hP];exact⟨F.2,rfl,by decide⟩
 have Fin:=Lib.hid fin;clear fin;by_cases hbig:(IL:Int)>268435455
 · clear hg;go_enter Tryz.func150,Tryz.ntmps150
   go_wp2_with (first
    |(go_at_call 148;refine(hck _).mono ?_;rintro e w1 ⟨rfl,hb1⟩;have ST1:=Lib.hid (ST0.out.below hb1);clear hb1)
    |(go_at_call 7;refine(hbd _).mono ?_;rintro e w2 ⟨rfl,hb2⟩;have ST2:=Lib.hid ((ST1.out.alloc _).below hb2);clear hb2;obtain⟨⟨c0,c1,c2,c3,c4,c5⟩,⟨r0,r1⟩,rf,l1,l2⟩:=ST2.out.cells)
    |(go_at_call 226;refine(hln _).mono ?_;rintro e w3 ⟨rfl,hb3⟩;have ST3:=Lib.hid (ST2.out.below hb3);clear hb3 c0 c1 c2 c3 c4 c5 r0 r1 rf l1 l2;obtain⟨⟨c0,c1,c2,c3,c4,c5⟩,⟨r0,r1⟩,rf,l1,l2⟩:=ST3.out.cells))
   exact Fin.out _ ST3.out _ rfl rfl
 · have hv2:v=2:=by omega
   subst hv2;have hb2:(IL:Int)>16777215:=by omega
   clear hg;go_enter Tryz.func150,Tryz.ntmps150
   go_wp2_with (first
    |(go_at_call 148;refine(hck _).mono ?_;rintro e w1 ⟨rfl,hb1⟩;have ST1:=Lib.hid (ST0.out.below hb1);clear hb1)
    |(go_at_call 7;refine(hbd _).mono ?_;rintro e w2 ⟨rfl,hb2⟩;have ST2:=Lib.hid ((ST1.out.alloc _).below hb2);clear hb2;obtain⟨⟨c0,c1,c2,c3,c4,c5⟩,⟨r0,r1⟩,rf,l1,l2⟩:=ST2.out.cells)
    |(go_at_call 226;refine(hln _).mono ?_;rintro e w3 ⟨rfl,hb3⟩;have ST3:=Lib.hid (ST2.out.below hb3);clear hb3 c0 c1 c2 c3 c4 c5 r0 r1 rf l1 l2;obtain⟨⟨c0,c1,c2,c3,c4,c5⟩,⟨r0,r1⟩,rf,l1,l2⟩:=ST3.out.cells))
   exact Fin.out _ ST3.out _ rfl rfl
end Go.Proofs.YtecandjkbbpooaaGreatDoor
