/- Lemmas for a statement on the tops; conditions: as each says. -/
import Derived.Test.YtlglfmbccihopaaGreatDoorM36
import Derived.Test.YtlglfmbccihopaaGreatDoorM46
set_option linter.unusedVariables false
set_option linter.unusedSimpArgs false
set_option maxRecDepth 100000
set_option maxHeartbeats 1000000
namespace Go.Proofs.YtlglfmbccihopaaGreatDoor
open Go Go.RowKit
structure FlX (ms:List Mx)(v:List UInt8)(ns:List Nx)(at_:Int)(sound:List UInt8)(f:Fl)(b:Bool):Prop where
 f:f=⟨ms.map Mx.mt,if b then some (at_.toNat,bkX v ns) else none,sound⟩
 yes:b=true→0≤at_∧ckC v ns=true
 no:b=false→at_<0∧ns=[]∧v=[]
theorem ZmE {B0:Nat} {w:World} {vl:Value} {ns:List Nx} (h:Zg ntV B0 w vl (ns.map Nx.nt)):Zg nxV B0 w vl (ns.map Nx.up):=by
 have e:∀l:List Nx,(l.map Nx.nt).flatMap ntV=(l.map Nx.up).flatMap nxV:=by
  intro l;induction l with
  |nil=>rfl
  |cons x r ih=>rw [List.map_cons,List.map_cons,List.flatMap_cons,List.flatMap_cons,ih];rfl
 unfold Zg at h⊢;rw [e,List.length_map,ne_eq,List.map_eq_nil_iff] at h;rw [List.length_map,ne_eq,List.map_eq_nil_iff];exact h
theorem Zly:∀{a b:List Mx},a.map Mx.mt=b.map Mx.mt→a=b
 |[],[],_=>rfl
 |[],_::_,h=>by cases h
 |_::_,[],h=>by cases h
 |x::a,y::b,h=>by
  injection h with h1 h2
  have e1:=congrArg Mt.kind h1;have e2:=congrArg Mt.body h1;have:x=y:=by
   obtain⟨k1,b1⟩:=x;obtain⟨k2,b2⟩:=y;have e3:k1=k2:=UInt8.toNat_inj.1 e1;have e4:b1=b2:=e2;rw [e3,e4]
  rw [this,Zly h2]
theorem tree_x {ms:List Mx} {v:List UInt8} {ns:List Nx} {at_:Int} {sound:List UInt8} {f:Fl} {b:Bool} (hx:FlX ms v ns at_ sound f b){B0:Nat} {T:Array Value} {w:World} (h:Zi2 f B0 T w):
 ∃(vl vn:Value) (st:Int),T=TF 3 vl (.string (B v)) (.int .i64 st) vn (.int .i64 (max at_ (-1))) (.string (B sound))∧Zg mxV B0 w vl ms∧Zg nxV B0 w vn (ns.map Nx.up):=by
 obtain⟨vl,vn,hT,⟨ms2,hm2,hr2⟩,hn⟩:=h;have hf:=hx.f;subst hf;have hms:ms2=ms:=Zly hm2;subst hms;cases b with
 |true=>
  obtain⟨h0,_⟩:=hx.yes rfl;refine⟨vl,vn,7,?_,hr2,ZmE hn⟩;rw [hT];show TF 3 vl (.string (B v)) (.int .i64 ((7:Nat):Int)) vn (.int .i64 ((at_.toNat:Nat):Int)) (.string (B sound))=_
  rw [Int.toNat_of_nonneg h0,Int.max_def,if_neg (by omega)];rfl
 |false=>
  obtain⟨h0,hn0,hv0⟩:=hx.no rfl;subst hn0 hv0;refine⟨vl,vn,0,?_,hr2,ZmE (ns:=[]) hn⟩;rw [hT];show TF 3 vl (.string (B [])) (.int .i64 ((0:Nat):Int)) vn (.int .i64 (-1)) (.string (B sound))=_
  rw [Int.max_def,if_pos (by omega)];rfl
theorem Zrs {ms:List Mx} {v:List UInt8} {ns:List Nx} {sound:List UInt8} (h:LightX ms v ns sound):LightX ms v (ns.map Nx.up) sound:=
 ⟨h.msl,h.body,h.snd,by rw [List.length_map];exact h.nsl,fun n hn=>by obtain⟨m,hm,rfl⟩:=List.mem_map.1 hn;exact h.note m hm,h.vend⟩
theorem Zsm (ms:List Mx)(v:List UInt8)(ns:List Nx)(sound:List UInt8):∃r,ZN ms v ns sound=Zae++r:=⟨_,rfl⟩
section
variable {ms:List Mx} {v:List UInt8} {ns:List Nx} {at_:Int} {sound:List UInt8}
theorem Zi1 (hc:ZY ms v ns at_=true)(hl:LightX ms v ns sound)(kd:Int)(hk:kd=3∨kd=0)(fb:Nat)(hfb:fb≤9)(det:Bool)(w:World)(hw:Wk w):
 Calls Tryz.prog 9 #[.string (B (ZN ms v ns sound)),.agg #[.int .i64 kd,.int .i64 fb,.bool det,.int .i64 0]] w fun e w'=>∃T,e= .returned (.tuple #[.agg T,.agg #[.int .i64 0,.int .i64 0]])∧
  (∃(vl vn:Value) (st:Int),T=TF 3 vl (.string (B v)) (.int .i64 st) vn (.int .i64 (max at_ (-1))) (.string (B sound))∧Zg mxV w.heap.size w' vl ms∧Zg nxV w.heap.size w' vn (ns.map Nx.up))∧Below w.heap.size w w':=by
 obtain⟨b,hp,hy,hn⟩:=ZqR hc hl fb det;have hlen:=Zh1 hl;have hsn:∀wx,Below w.heap.size w wx→Calls Tryz.prog 21 #[.string (B (ZN ms v ns sound))] wx fun e w'=>e= .returned (.tuple #[.int .i64 3,.bool true])∧Below wx.heap.size wx w':=fun wx hb=>by
  obtain⟨r,hr⟩:=Zsm ms v ns sound;rw [hr];exact Zom r wx (hw.below hb).2
 refine(Zoc (B (ZN ms v ns sound)) kd fb 0 det _ w (hk.imp id fun h=>⟨h,hsn⟩) fun wx hb=>Zob (ZN ms v ns sound) (Zsn hc hl) kd 0 fb det hfb _ hp wx (hw.below hb).1).mono ?_;rintro e w' ⟨T,rfl,hT,hb⟩;exact⟨T,rfl,tree_x (b:=b) ⟨rfl,hy,hn⟩ hT,hb⟩
theorem Zi7 (hc:ZY ms v ns at_=true)(hl:LightX ms v ns sound)(kd:Int)(hk:kd=3∨kd=0)(fb:Nat)(hfb:fb≤6)(det:Bool)(w:World)(hw:Wk w):
 Calls Tryz.prog 10 #[.string (B (ZN ms v ns sound)),.agg #[.int .i64 kd,.int .i64 fb,.bool det,.int .i64 0]] w fun e w'=>e= .returned (.tuple #[.string (B (ZN ms v ns sound)),.agg #[.int .i64 0,.int .i64 0]])∧Below w.heap.size w w':=by
 have hlen:=Zh1 hl;have hsz:=Zt (ZN ms v ns sound);have hra:ZcU kd fb 0=true:=by unfold ZcU;rw [decide_eq_true_eq];omega
 refine Zor (B (ZN ms v ns sound)) (by omega) kd fb det hra (B (ZN ms v ns sound)) (by omega)
  (fun T wx=>Grd wx∧∃(vl vn:Value) (st:Int),T=TF 3 vl (.string (B v)) (.int .i64 st) vn (.int .i64 (max at_ (-1))) (.string (B sound))∧Zg mxV 0 wx vl ms∧Zg nxV 0 wx vn (ns.map Nx.up))
  (fun T w1 w2 h hb=>⟨h.1.below hb,by obtain⟨_,vl,vn,st,h1,h2,h3⟩:=h;exact⟨vl,vn,st,h1,h2.below hb,h3.below hb⟩⟩) w ?_ ?_
 · intro wx hb;refine(Zi1 hc hl kd hk fb (by omega) det wx (hw.below hb)).mono ?_;rintro e w' ⟨T,rfl,⟨vl,vn,st,hT,h2,h3⟩,hb2⟩;obtain⟨A1,n1,c1,hv1⟩:=Zbc h2;obtain⟨A2,n2,c2,hv2⟩:=Zbc h3;refine⟨T,rfl,⟨by rw [hT];rfl,?_⟩,⟨((hw.below hb).below hb2).1,vl,vn,st,hT,h2.low (Nat.zero_le _),h3.low (Nat.zero_le _)⟩,hb2⟩;rw [hT,hv1,hv2];exact Zgi _ _ _ _ _ _ _ ⟨rfl,rfl,rfl,rfl,rfl,rfl⟩
 · rintro T wx hs ⟨hG,vl,vn,st,hT,h2,h3⟩;obtain⟨A1,c1,hv1,hr1⟩:=RdN.of_rows Zet h2;obtain⟨A2,c2,hv2,hr2⟩:=RdN.of_rows ZdO h3;refine Zpq T vl _ _ vn _ _ hT (B (ZN ms v ns sound)) wx fun wy hb=> ?_;have:=ZiZ ms v st (ns.map Nx.up) (max at_ (-1)) sound A1 A2 c1 c2 (Zrs hl) wy (hG.below hb) ((hr1.below hb).more hb.size) ((hr2.below hb).more hb.size);unfold fpX CpV flV at this;rw [if_pos (Zp0 hc),Zso,←hv1,←hv2] at this;exact this.mono fun e w' h=>⟨h.2,h.1⟩
end
end Go.Proofs.YtlglfmbccihopaaGreatDoor
