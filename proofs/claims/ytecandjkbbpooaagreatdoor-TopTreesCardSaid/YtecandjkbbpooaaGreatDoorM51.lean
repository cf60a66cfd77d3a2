/- Lemmas for a statement on the tops; conditions: as each says. -/
import Derived.Test.YtecandjkbbpooaaGreatDoorM42
import Derived.Test.YtecandjkbbpooaaGreatDoorM50
set_option linter.unusedVariables false
set_option linter.unusedSimpArgs false
set_option maxRecDepth 100000
set_option maxHeartbeats 1000000
namespace Go.Proofs.YtecandjkbbpooaaGreatDoor
open Go Go.RowKit
structure Wk (w:World):Prop where
 grd:Grd w
 st:ZjC w
theorem Wk.below {w w':World} (h:Wk w)(hb:Below w.heap.size w w'):Wk w' where
 grd:=h.grd.below hb
 st:=fun j u hu=>by
  have hc:=h.st j u hu;have hlt:0<w.heap.size:=by
   simp only [World.cell?] at hc;cases hq:w.heap[0]? with
   |none=>rw [hq] at hc;cases hc
   |some o=>exact(Array.getElem?_eq_some_iff.1 hq).1
  exact(hb.cell (p:=⟨0,0+j,none⟩) hlt).trans hc
theorem Zpt {f:Nat} (h:Ev.ToldOk (Ev.tAw f))(w:World)(hG:Ev.Gl w):Calls Tryz.prog f #[] w fun e w'=>e= .returned (.bool true)∧Below w.heap.size w w':=by
 have:=h w hG (fun _=>none) [] trivial;refine this.mono ?_;rintro e w' ⟨V,rfl,hV,hb⟩;have e:V= .bool true:=hV (fun _=>none);subst e;exact⟨rfl,hb⟩
theorem Aw_top (w:World)(hG:Ev.Gl w):Calls Tryz.prog 4 #[] w fun e w'=>e= .returned (.bool true)∧Below w.heap.size w w':=by
 have h:=Zpt Ev.aw29 w hG;go_enter Tryz.func4,Tryz.ntmps4
 go_wp2_with (go_at_call 11;refine h.mono ?_;clear h;rintro e w1 ⟨rfl,hb1⟩;have B1:=Lib.hid hb1;clear hb1)
 go_ret
 exact⟨rfl,B1.out⟩
theorem wds_pr (K v:Nat)(kd bud:Int){fb:Nat} (hfb:fb≤9)(det:Bool):Zef K (Zo v) kd bud fb det:=fun s l hl k hk w hG h=>by
 unfold Zo;by_cases h4:v=4
 · rw [if_pos h4];exact Words3 K s 3 (by omega) kd bud fb det l hl k hk w hG h hfb
 · rw [if_neg h4];cases hb:Zak l with
   |true=>exact Zpl K s kd bud fb det l hl k hk w hG h hfb hb
   |false=>exact Zpk K s kd bud fb det l hl k hk w hG h hfb hb
theorem Zrd (v:Nat)(r:List UInt8):((⟨UInt8.ofNat (Zo v)::r,0,0,0,0⟩:InS).big 1).1=Zo v:=by
 rcases Zf3 v with e|e<;>rw [e]<;>rfl
section
variable {v:Nat} {rev fl:UInt8} {its its2:List It} {sound s:List UInt8} {fb:Nat} {det:Bool} {l:List Fr}
theorem Znz (id r:List UInt8)(hid:id.length≤100000)(hr:r.length≤90000)(h0:Zd v id≠[])(kd bud:Int)(hfb:fb≤9)(w:World)(hG:Grd w):
 Calls Tryz.prog 44 #[.int .i64 v,.string (B id),.string (B (UInt8.ofNat (Zo v)::r)),.agg #[.int .i64 kd,.int .i64 fb,.bool det,.int .i64 bud]] w (Zd9 (Zcf (wdF fb det) v id (UInt8.ofNat (Zo v)::r)) w):=by
 refine ZnA v id (UInt8.ofNat (Zo v)::r) hid (by simp only [List.length_cons];omega) h0 kd bud fb det ?_ w hG;intro lt _ K s hs w hG h;rw [Zrd];exact Zou lt K s (Zo v) (by rcases Zf3 v with e|e<;>omega) kd bud fb det (wds_pr K v kd bud hfb det) hs w hG h
theorem Zrr (h:TrBack v rev fl its sound s fb det l its2){f:Fr} (hf:f∈l)(h0:Zd v f.id≠[]):∃r,f.body=UInt8.ofNat (Zo v)::r∧r.length≤90000:=by
 obtain⟨k,hk⟩:=List.getElem?_of_mem hf;obtain⟨y,hy⟩:∃y,its2[k]? =some y:=⟨_,List.getElem?_eq_getElem (by rw [h.items.1];exact(List.getElem?_eq_some_iff.1 hk).1)⟩
 have hsm:=(h.small f hf).2;have hw:=h.whole k f y hk hy;have hid:=ZiM hw;unfold ZP at hw;rw [←hid,if_neg h0] at hw
 (repeat' split at hw)<;>first
  |(cases hw;done)
  |(injection hw with hw
    have hb:=congrArg Fr.body hw;refine⟨_,hb.symm,?_⟩;have hl:=congrArg List.length hb;simp only [List.length_cons] at hl;omega)
theorem Zja (h:TrBack v rev fl its sound s fb det l its2)(hn:its.length≤10)(hs:s.length≤900000000)(hfb:fb≤9)(bud:Int)(w:World)(hw:Wk w):
 Calls Tryz.prog 8 #[.string (B s),.agg #[.int .i64 1,.int .i64 fb,.bool det,.int .i64 bud]] w fun e w'=>
  ∃vi,e= .returned (.tuple #[.agg (T67 1 v rev fl vi sound),.agg #[.int .i64 0,.int .i64 0]])∧Zaw w.heap.size w' vi its2∧Below w.heap.size w w':=by
 refine ZnD (B s) 1 fb bud det v rev fl sound its2 w (.inl rfl) fun wx hx=> ?_;have hl:=h.len;refine Zon s hs 1 bud fb det v rev fl l sound its2 h.parse (by omega) (fun f hf=>⟨Nat.le_trans (h.small f hf).1 (by decide),Nat.le_trans (h.small f hf).2 (by decide)⟩) ?_ h.items wx (hw.below hx).grd;intro f hf h0 wy hy;obtain⟨r,hr,hrl⟩:=Zrr h hf h0;rw [hr];exact Znz f.id r (Nat.le_trans (h.small f hf).1 (by decide)) hrl h0 1 bud hfb wy hy
end
theorem Zpb (T:Array Value)(hs:T.size=25)(hk:T[0]? =some (.int .i64 1))(w:World)
 (h:∀wx,Below w.heap.size w wx→Calls Tryz.prog 14 #[.agg T] wx (Zcn wx)):
 Calls Tryz.prog 6 #[.agg T] w (Zcn w):=by
 unfold Zcn at h;have hB0:Below w.heap.size w ((w.alloc (.cells T 59)).alloc (.cells #[.int .i64 0,.int .i64 0] 62)):=((Below.refl _ _).alloc (Nat.le_refl _) _).alloc (by simp) _;have HB0:=Lib.hid hB0;have h2:=h _ hB0;have bx:Bx ((w.alloc (.cells T 59)).alloc (.cells #[.int .i64 0,.int .i64 0] 62)) w.heap.size T 59:=(Bx.new w _ _).alloc _;have c0:((w.alloc (.cells T 59)).alloc (.cells #[.int .i64 0,.int .i64 0] 62)).cell? ⟨w.heap.size,0,none⟩=some (.int .i64 1):=by rw [bx.cell 0,hk]
 clear h hB0;go_enter Tryz.func6,Tryz.ntmps6
 go_wp2_with (first
  |(refine wpList_load_row rfl 59 _ rfl w.heap.size rfl 59 T (0,0) _ bx Tryz.underlying59 rfl (by rw [hs];kernel_rfl) ?_)
  |(go_at_call 14;refine h2.mono ?_;clear h2;rintro e w1 ⟨⟨x,y,rfl,hxy⟩,hb⟩;have HXY:=Lib.hid hxy;clear hxy;have hq:=F2 hb;rw [World.size_alloc] at hq;have HF:=Lib.hid hq;have HB:=Lib.hid (HB0.out.trans (hb.mono HB0.out.size));obtain⟨q0,q1,f0,f1⟩:=Zb5 hq;clear hb hq))
 refine bodyPost_ret (v:= .tuple #[.string ⟨#[]⟩,.agg #[.int .i64 x,.int .i64 y]]) ?_ rfl ⟨⟨x,y,rfl,HXY.out⟩,?_⟩
 · have h1:Bx w1 (w.heap.size+1) #[.int .i64 0,.int .i64 0] 62:=HF.out;have h3:=(h1.put 0 (.int .i64 x)).put 1 (.int .i64 y);have p0:=h3.cell 0;have p1:=h3.cell 1;simp only [Array.getElem?_setIfInBounds] at p0 p1;simp [results,Tryz.results6,go_sem,p0,p1]
 · exact(HB.out.setCell (Nat.le_succ _) _).setCell (Nat.le_succ _) _
theorem ZjH (T:Array Value)(hs:T.size=25)(hk:T[0]? =some (.int .i64 1))(r:Option (List UInt8))(w:World)
 (h:∀wx,Below w.heap.size w wx→Calls Tryz.prog 14 #[.agg T] wx (Zar wx r)):Calls Tryz.prog 6 #[.agg T] w (Zar w r):=by
 cases r with
 |none=>exact(Zpb T hs hk w fun wx hb=>(h wx hb).mono fun e w' h=>⟨h.2,h.1⟩).mono fun e w' h=>Zar.bad h
 |some s=>exact(Zpc T hs hk (B s) 0 0 w fun wx hb=>(h wx hb).mono fun e w' h=>⟨h.2,h.1⟩).mono fun e w' h=>⟨h.2,h.1⟩
theorem Zjt (v:Int)(rev fl:UInt8)(xs:List (It×Value))(A:Option Addr)(c:Nat)(sound:List UInt8)(w:World)(T:Array Value)
 (h1:T[1]? =some (.int .i64 v)) (h2:T[2]? =some (.int .u8 rev.toNat)) (h3:T[3]? =some (.int .u8 fl.toNat)) (h4:T[4]? =some (.slice A xs.length c)) (h5:T[5]? =some (.string (B sound)))
 (hr:RdN 7 itV w w.heap.size A xs) (hsl:∀x∈xs,∃A c,x.2= .slice A x.1.ps.length c∧RdN 4 piL w w.heap.size A x.1.ps) (hn:xs.length≤10)
 (hb:∀x∈xs,ItB x.1) (hG:Grd w) (hsd:sound.length≤1000000):
 Calls Tryz.prog 14 #[.agg T] w (Zar w (ZaF v rev fl (xs.map (·.1)) sound)):=by
 by_cases hv:v=0
 · subst hv;unfold ZaF;rw [if_pos rfl];by_cases hx:xs=[]
   · subst hx;by_cases hrf:rev≠0∨fl≠0
     · rw [if_pos (by rcases hrf with h|h;exact .inr (.inl h);exact .inr (.inr (.inl h)))];exact Zoy rev fl A c sound w T h1 h2 h3 h4 h5 hrf
     · obtain⟨e1,e2⟩:=not_or.1 hrf;have e1:=Classical.not_not.1 e1;have e2:=Classical.not_not.1 e2;subst e1 e2;have:=ZoB A c sound (by omega) w T h1 h2 h3 h4 h5;by_cases h3':sound.take 3=ZB
       · rw [if_pos h3'] at this;rw [if_pos (.inr (.inr (.inr h3')))];exact this
       · rw [if_neg h3'] at this;rw [if_neg (by simp [h3'])];exact this
   · rw [if_pos (.inl (by simpa using hx))];exact Zoz rev fl A xs.length c sound w T h1 h2 h3 h4 h5 (List.length_pos_iff.2 hx)
 · have hbi:∀y∈xs.map (·.1),ItB y:=fun y hy=>by
    obtain⟨x,hx,rfl⟩:=List.mem_map.1 hy;exact hb x hx
   have hfs:=ZhN (v:=v.toNat) hbi;have hfl:(Z0 v.toNat (xs.map (·.1))).length≤10:=by unfold Z0;rw [List.length_map,List.length_map];exact hn
   have hal:=(Zhp (v:=v.toNat) (rev:=rev) (fl:=fl) hfs hfl).1;have hpl:=Zmd (v:=v.toNat) (rev:=rev) (fl:=fl) hfs hfl;exact ZoA v hv rev fl xs A c sound w T h1 h2 h3 h4 h5 hr hsl (by omega) (fun x hx=>⟨Nat.le_trans (hb x hx).id (by decide),Nat.le_trans (hb x hx).n (by decide),fun p hp=>Nat.le_trans ((hb x hx).text p hp) (by decide)⟩) hG
    (fun _ f hf=>Nat.le_trans (Zii (v:=2) (hfs f hf)).1 (by decide)) (by omega) (by omega) (by omega)
theorem Ze0.itB {x y:It} (h:Ze0 x y)(hb:ItB x):ItB y:=by
 have hl:y.ps.length=x.ps.length:=by have:=congrArg List.length h.2;simpa using this
 refine⟨by rw [h.1];exact hb.id,by rw [h.1];exact hb.body,by rw [hl];exact hb.n,fun p hp=> ?_⟩;have hm:(p.raw,p.text)∈y.ps.map (fun p=>(p.raw,p.text)):=List.mem_map.2 ⟨p,hp,rfl⟩;rw [show y.ps.map (fun p=>(p.raw,p.text))=x.ps.map (fun p=>(p.raw,p.text)) from h.2] at hm;obtain⟨q,hq,e⟩:=List.mem_map.1 hm;injection e with e1 e2
 rw [←e2];exact hb.text q hq
section
variable {v:Nat} {rev fl:UInt8} {its its2:List It} {sound s:List UInt8} {fb:Nat} {det:Bool} {l:List Fr}
theorem TrBack.itB (h:TrBack v rev fl its sound s fb det l its2)(hb:∀x∈its,ItB x):∀y∈its2,ItB y:=by
 intro y hy;obtain⟨k,hk⟩:=List.getElem?_of_mem hy;have h1:=h.items.1;have h2:=h.len;obtain⟨x,hx⟩:∃x,its[k]? =some x:=⟨_,List.getElem?_eq_getElem (by have:=(List.getElem?_eq_some_iff.1 hk).1;omega)⟩
 exact(h.same k x y hx hk).itB (hb x (List.mem_of_getElem? hx))
theorem Zoh (h:TrBack v rev fl its sound s fb det l its2)(hb:∀x∈its,ItB x)(hn:its.length≤10)(hs:s.length≤268435456)(hsd:sound.length≤1000000)(hfb:fb≤6)(w:World)(hw:Wk w):
 Calls Tryz.prog 10 #[.string (B s),.agg #[.int .i64 1,.int .i64 fb,.bool det,.int .i64 0]] w fun e w'=>e= .returned (.tuple #[.string (B s),.agg #[.int .i64 0,.int .i64 0]])∧Below w.heap.size w w':=by
 have hsz:=Zl s;have hra:Zdu 1 fb 0=true:=by unfold Zdu;rw [decide_eq_true_eq];omega
 refine Zog (B s) (by omega) 1 fb det hra (B s) (by omega) (fun T w=>Wk w∧∃vi,T=T67 1 v rev fl vi sound∧Zaw 0 w vi its2) ?_ w (fun wx hx=> ?_) fun T wx _ hR=> ?_
 · rintro T w1 w2 ⟨h0,vi,h1,h2⟩ hb;exact⟨h0.below hb,vi,h1,h2.below hb⟩
 · refine(Zja h hn (by omega) (by omega) 0 wx (hw.below hx)).mono ?_;rintro e w' ⟨vi,h1,h2,h3⟩;obtain⟨A,n,c,hvi⟩:=Zgh h2;subst hvi;exact⟨_,h1,⟨ZmU ..,ZcG _ _ _ _ _ _ rfl⟩,⟨(hw.below hx).below h3,_,rfl,h2.low (Nat.zero_le _)⟩,h3⟩
 · obtain⟨h0,vi,rfl,xs,h1,h2,h3⟩:=hR;obtain⟨A,c,hvi,hr⟩:=RdN.of_rows Zfe h2;subst hvi;have hl:xs.length=its2.length:=by rw [←h1,List.length_map]
   have hl2:=h.items.1;have hl3:=h.len;have:=ZjH (T67 1 v rev fl (.slice A xs.length c) sound) (ZmU ..) rfl (ZaF v rev fl (xs.map (·.1)) sound) wx fun wy hy=>
    Zjt v rev fl xs A c sound wy _ rfl rfl rfl rfl rfl ((hr.below hy).more hy.size) (fun x hx=>by
     obtain⟨A5,c5,e5,hp⟩:=RdN.of_rows Zfm (h3 x hx);exact⟨A5,c5,e5,(hp.below hy).more hy.size⟩) (by omega) (fun x hx=>h.itB hb x.1 (by rw [←h1];exact List.mem_map.2 ⟨x,hx,rfl⟩)) (h0.grd.below hy) hsd
   rw [h1,h.again] at this;exact this.mono fun e w' h=>⟨h.2,h.1⟩
end
theorem Zjl (f:Fr)(w:World):
 Calls Tryz.prog 9 #[.agg #[.string (B f.id),.int .u8 f.st.toNat,.int .u8 f.fm.toNat,.int .u8 f.grp.toNat,.string (B f.body),.int .i64 f.at_]] w fun e w'=>
  e= .returned (.agg #[.string (B f.id),.int .i64 f.st.toNat,.int .i64 f.fm.toNat,.int .i64 f.grp.toNat,.string (B f.body),.int .i64 f.at_])∧Below w.heap.size w w':=by
 have B0:=Lib.hid (Bx.new w #[.string (B f.id),.int .u8 f.st.toNat,.int .u8 f.fm.toNat,.int .u8 f.grp.toNat,.string (B f.body),.int .i64 f.at_] 34);have L0:=Lib.hid ((Below.refl w.heap.size w).alloc (Nat.le_refl _) (.cells #[.string (B f.id),.int .u8 f.st.toNat,.int .u8 f.fm.toNat,.int .u8 f.grp.toNat,.string (B f.body),.int .i64 f.at_] 34));have h1:=f.st.toNat_lt;have h2:=f.fm.toNat_lt;have h3:=f.grp.toNat_lt;generalize B f.id=id at*;generalize B f.body=bd at*;generalize f.st.toNat=st at*;generalize f.fm.toNat=fm at*;generalize f.grp.toNat=grp at*;have w1:IntKind.i64.wrap (st:Int)=st:=by rw [IntKind.wrap_i64];omega
 have w2:IntKind.i64.wrap (fm:Int)=fm:=by rw [IntKind.wrap_i64];omega
 have w3:IntKind.i64.wrap (grp:Int)=grp:=by rw [IntKind.wrap_i64];omega
 go_enter Tryz.func9,Tryz.ntmps9
 go_wp2_with fail
 have L1:=Lib.hid (L0.out.alloc L0.out.size (.cells #[.string id,.int .i64 st,.int .i64 fm,.int .i64 grp,.string bd,.int .i64 f.at_] 68));have X1:=Bx.new (w.alloc (.cells #[.string id,.int .u8 st,.int .u8 fm,.int .u8 grp,.string bd,.int .i64 f.at_] 34)) #[.string id,.int .i64 st,.int .i64 fm,.int .i64 grp,.string bd,.int .i64 f.at_] 68;rw [World.size_alloc] at X1;refine bodyPost_ret (results_cell_row rfl _ _ (w.heap.size+1) _ _ _ _ rfl X1 Tryz.underlying68 rfl (by kernel_rfl)) rfl ⟨rfl,L1.out⟩
def Z6r:Array Value:=#[.string ⟨#[]⟩,.int .i64 0,.int .i64 0,.int .i64 0,.string ⟨#[]⟩,.int .i64 0]
def Bx9 (W0:World)(b:Nat)(w:World):Prop:=W0.heap.size≤b∧Bx w b Z6r 68
structure O9 (W0:World)(u v:Bool)(bu bv:Nat)(w:World):Prop where
 below:Below W0.heap.size W0 w
 xu:u=true→Bx9 W0 bu w
 xv:v=true→Bx9 W0 bv w
 ne:u=true→v=true→bu≠bv
section
variable {W0:World} {u v:Bool} {bu bv:Nat} {w w':World}
theorem O9.keep (h:O9 W0 u v bu bv w)(hb:Below w.heap.size w w'):O9 W0 u v bu bv w':=
 ⟨h.below.trans (hb.mono h.below.size),fun hu=>⟨(h.xu hu).1,(h.xu hu).2.below hb⟩,fun hv=>⟨(h.xv hv).1,(h.xv hv).2.below hb⟩,h.ne⟩
theorem O9.nextU (h:O9 W0 false v bu bv w):O9 W0 true v w.heap.size bv (w.alloc (.cells Z6r 68)):=
 have g:=h.keep ((Below.refl _ w).alloc (Nat.le_refl _) (.cells Z6r 68))
 ⟨g.below,fun _=>⟨h.below.size,Bx.new w _ _⟩,g.xv,fun _ hv=>by have:=(h.xv hv).2.lt;omega⟩
theorem O9.nextV (h:O9 W0 u false bu bv w):O9 W0 u true bu w.heap.size (w.alloc (.cells Z6r 68)):=
 have g:=h.keep ((Below.refl _ w).alloc (Nat.le_refl _) (.cells Z6r 68))
 ⟨g.below,g.xu,fun _=>⟨h.below.size,Bx.new w _ _⟩,fun hu _=>by have:=(h.xu hu).2.lt;omega⟩
end
def ZZ:Nat→Bool→Bool→Array Bool
 |0,u,v=>#[true,true,false,true,true,false,u,v,false,false]
 |1,u,v=>#[true,true,true,true,true,false,u,v,false,false]
 |_+2,u,v=>#[true,true,true,true,true,true,u,v,false,false]
def rk9 (s:Nat×Bool×Bool):Nat:=(2 - s.1)+(!s.2.1).toNat+(!s.2.2).toNat
def fin9:Nat×Bool×Bool→Bool
 |(_+2,true,true)=>true
 |_=>false
def Zba (a:Act):Nat→Value→Value→Act
 |0,_,_=>a
 |1,s1,_=>a.put (some 141) s1
 |_+2,s1,s2=>(a.put (some 141) s1).put (some 144) s2
def ZbO (a:Act)(k:Nat)(u v:Bool)(s1 s2:Value)(bu bv:Nat):Act:=
 match u,v with
 |false,false=>Zba a k s1 s2
 |true,false=>(Zba a k s1 s2).put (some 21) (.pointer (some ⟨bu,0,none⟩))
 |false,true=>(Zba a k s1 s2).put (some 22) (.pointer (some ⟨bv,0,none⟩))
 |true,true=>((Zba a k s1 s2).put (some 21) (.pointer (some ⟨bu,0,none⟩))).put (some 22) (.pointer (some ⟨bv,0,none⟩))
def RS9 (a:Act)(W0:World)(s1 s2:Value)(s:Nat×Bool×Bool)(a':Act)(w:World):Prop:=
 ∃bu bv,a'=ZbO a s.1 s.2.1 s.2.2 s1 s2 bu bv∧O9 W0 s.2.1 s.2.2 bu bv w
theorem anyH_9 {l:List Oper} {Q:Exit→Act→World→Prop} {S:World→Prop} (hsel:Region.noSelect l.toArray=true)(hQ:∀c (a:Act) d v w,Q (.panic c) (a.put d v) w→Q (.panic c) a w)(W0:World)(s1 s2:Value)(a:Act)(w:World)(fuel:Nat)(hf:6≤fuel)
 (hready:∀s,fin9 s=false→Region.ready .any l.toArray (ZZ s.1 s.2.1 s.2.2)≠[]∧0<rk9 s)
 (hstep:∀s a' w,fin9 s=false→S w→RS9 a W0 s1 s2 s a' w→∀j,j∈Region.ready .any l.toArray (ZZ s.1 s.2.1 s.2.2)→ZfA Tryz.prog l Q S j (fun a' w'=>∃s',ZZ s'.1 s'.2.1 s'.2.2=(ZZ s.1 s.2.1 s.2.2).setIfInBounds j true∧rk9 s'<rk9 s∧RS9 a W0 s1 s2 s' a' w') a' w)
 (hfin:∀s a' w,fin9 s=true→S w→RS9 a W0 s1 s2 s a' w→ZcY l.toArray [(8,false),(9,false)] (ZZ s.1 s.2.1 s.2.2)=true∧ZbK Tryz.prog l Q S [(8,false),(9,false)] a' w)
 (hS:S w) (hb:Below W0.heap.size W0 w):wpAnyH Tryz.prog .any l.toArray Q S fuel #[true,true,false,true,true,false,false,false,false,false] a w:=
 ZjR hsel hQ (RS9 a W0 s1 s2) (fun s=>ZZ s.1 s.2.1 s.2.2) rk9 fin9 [(8,false),(9,false)] hready hstep hfin 4 (0,false,false) a w fuel (by decide) hf hS
  ⟨0,0,rfl,⟨hb,fun h=>(by simp at h),fun h=>(by simp at h),fun h=>(by simp at h)⟩⟩
structure TuSt (w wx:World)(HA OA T:Array Value)(K:Nat):Prop where
 h:Bx wx w.heap.size HA 23
 o:Bx wx (w.heap.size+1) OA 28
 t:Bx wx K T 59
 g:Bx wx (K+1) #[.int .i64 0,.int .i64 0] 62
theorem TuSt.below {w wx wy:World} {HA OA T:Array Value} {K:Nat} (h:TuSt w wx HA OA T K)(hb:Below wx.heap.size wx wy):TuSt w wy HA OA T K:=⟨h.h.below hb,h.o.below hb,h.t.below hb,h.g.below hb⟩
theorem TuSt.cells {w wx:World} {a0 a1 a2 t1 t2 t3 t4 t5:Value} {OA T:Array Value} {K:Nat} (h:TuSt w wx #[a0,a1,a2] OA T K)(h1:T[1]? =some t1)(h2:T[2]? =some t2)(h3:T[3]? =some t3)(h4:T[4]? =some t4)(h5:T[5]? =some t5):
 (wx.cell? ⟨w.heap.size,0,none⟩=some a0∧wx.cell? ⟨w.heap.size,1,none⟩=some a1∧wx.cell? ⟨w.heap.size,2,none⟩=some a2)∧
 (wx.cell? ⟨K,1,none⟩=some t1∧wx.cell? ⟨K,2,none⟩=some t2∧wx.cell? ⟨K,3,none⟩=some t3∧wx.cell? ⟨K,4,none⟩=some t4∧wx.cell? ⟨K,5,none⟩=some t5)∧
 (wx.cell? ⟨K+1,0,none⟩=some (.int .i64 0)∧wx.cell? ⟨K+1,1,none⟩=some (.int .i64 0)):=
 ⟨⟨h.h.cell 0,h.h.cell 1,h.h.cell 2⟩,⟨by rw [h.t.cell 1];exact h1,by rw [h.t.cell 2];exact h2,by rw [h.t.cell 3];exact h3,by rw [h.t.cell 4];exact h4,by rw [h.t.cell 5];exact h5⟩,h.g.cell 0,h.g.cell 1⟩
def BlRel (wb:World)(n:Nat)(i:Value)(wx:World):Prop:=∃k:Nat,k≤n∧i= .int .i64 k∧Hid (Below wb.heap.size wb wx)
end Go.Proofs.YtecandjkbbpooaaGreatDoor
