/- Lemmas for a statement on the tops; conditions: as each says. -/
import Derived.Laws.BitsAllLaws
import Derived.Test.YtecandjkbbpooaaGreatDoorM14
set_option linter.unusedVariables false
set_option linter.unusedSimpArgs false
set_option maxRecDepth 100000
set_option maxHeartbeats 4000000
namespace Go.Proofs.YtecandjkbbpooaaGreatDoor
open Go Go.RowKit
def zero6:Array Value:=#[.string ⟨#[]⟩,.int .u8 0,.int .u8 0,.int .u8 0,.string ⟨#[]⟩,.int .i64 0]
def ZeZ (K:Nat)(w:World)(r:Option Fr×InS)(e:Ending)(w':World):Prop:=InAt w' K r.2∧But K w.heap.size w w'∧match r.1 with
 |none=>e= .returned (.tuple #[.agg #[.string ⟨#[]⟩,.int .u8 0,.int .u8 0,.int .u8 0,.string ⟨#[]⟩,.int .i64 0],.bool false])
 |some f=>e= .returned (.tuple #[.agg #[.string (B f.id),.int .u8 f.st.toNat,.int .u8 f.fm.toNat,.int .u8 f.grp.toNat,.string (B f.body),.int .i64 f.at_],.bool true])
structure PSt (w0 wx:World)(K R F:Nat)(f:Fr)(s:InS):Prop where
 frame:Zp wx F f
 inn:InAt wx K s
 res:Bx wx R zero6 34
 but:But K w0.heap.size w0 wx
 hK:K<w0.heap.size
 hR:R=w0.heap.size
 hF:R<F
section
variable {w0 w w':World} {F R K:Nat} {f:Fr} {s s':InS}
theorem PSt.below (h:PSt w0 w K R F f s)(hb:Below w.heap.size w w'):PSt w0 w' K R F f s:=
 ⟨h.frame.below hb,h.inn.below hb,h.res.below hb,h.but.trans (.of (hb.mono h.but.size)),h.hK,h.hR,h.hF⟩
theorem PSt.butK (h:PSt w0 w K R F f s)(hi:InAt w' K s')(hb:But K w.heap.size w w'):PSt w0 w' K R F f s':=
 ⟨h.frame.but hb (by have:=h.hF;have:=h.hR;have:=h.hK;omega),hi,h.res.but hb (by have:=h.hK;have:=h.hR;omega),h.but.trans (hb.mono h.but.size),h.hK,h.hR,h.hF⟩
theorem PSt.alloc (h:PSt w0 w K R F f s)(o:Obj):PSt w0 (w.alloc o) K R F f s:=h.below ((Below.refl _ _).alloc (Nat.le_refl _) _)
theorem PSt.set (h:PSt w0 w K R F f s){j:Nat} {v:Value} {f':Fr} (hf:Zp (w.setCell ⟨F,j,none⟩ v) F f'):PSt w0 (w.setCell ⟨F,j,none⟩ v) K R F f' s:=
 ⟨hf,h.inn.set (by have:=h.hF;have:=h.hR;have:=h.hK;omega) _ _,h.res.set (by have:=h.hF;omega) _ _,h.but.setCell (p:=⟨F,j,none⟩) (.inl (by have:=h.hF;have:=h.hR;simp;omega)) _,h.hK,h.hR,h.hF⟩
theorem PSt.cells (h:PSt w0 w K R F f s):(w.cell? ⟨F,0,none⟩=some (.string (B f.id))∧w.cell? ⟨F,1,none⟩=some (.int .u8 f.st.toNat)∧w.cell? ⟨F,2,none⟩=some (.int .u8 f.fm.toNat)∧w.cell? ⟨F,3,none⟩=some (.int .u8 f.grp.toNat)∧w.cell? ⟨F,4,none⟩=some (.string (B f.body))∧w.cell? ⟨F,5,none⟩=some (.int .i64 f.at_))∧
 (w.cell? ⟨R,0,none⟩=some (.string ⟨#[]⟩)∧w.cell? ⟨R,1,none⟩=some (.int .u8 0)∧w.cell? ⟨R,2,none⟩=some (.int .u8 0)∧w.cell? ⟨R,3,none⟩=some (.int .u8 0)∧w.cell? ⟨R,4,none⟩=some (.string ⟨#[]⟩)∧w.cell? ⟨R,5,none⟩=some (.int .i64 0))∧(∀j,w.frozen? ⟨F,j,none⟩=false)∧(∀j,w.frozen? ⟨R,j,none⟩=false)∧F<w.heap.size∧R<w.heap.size:=
 ⟨h.frame.get,⟨h.res.cell 0,h.res.cell 1,h.res.cell 2,h.res.cell 3,h.res.cell 4,h.res.cell 5⟩,h.frame.free,h.res.free,h.frame.lt,h.res.lt⟩
end
theorem Zp.setId {w:World} {F:Nat} {f:Fr} (h:Zp w F f)(b:List UInt8):Zp (w.setCell ⟨F,0,none⟩ (.string (B b))) F {f with id:=b}:=by
 unfold Zp;rw [heap_setCell_same w F 0 _ _ _ h];rfl
theorem Zp.setSt {w:World} {F:Nat} {f:Fr} (h:Zp w F f)(g:UInt8)(z:Int)(hz:z=g.toNat):Zp (w.setCell ⟨F,1,none⟩ (.int .u8 z)) F {f with st:=g}:=by
 subst hz;unfold Zp;rw [heap_setCell_same w F 1 _ _ _ h];rfl
theorem Zp.setFm {w:World} {F:Nat} {f:Fr} (h:Zp w F f)(g:UInt8)(z:Int)(hz:z=g.toNat):Zp (w.setCell ⟨F,2,none⟩ (.int .u8 z)) F {f with fm:=g}:=by
 subst hz;unfold Zp;rw [heap_setCell_same w F 2 _ _ _ h];rfl
theorem results_cell_tmp {P:Program} {fn:Func} {p t:Tmp} {ty:TypeId} (h:fn.results=#[.cell p ty,.tmp t])(tmps:Array Value)(w:World)(g:Nat)(T:TypeId)(cs:Array Value)(fr:Nat×Nat)(d:TypeDesc)(u:Value)
 (hp:tmps.getD p undef= .pointer (some ⟨g,0,none⟩)) (ht:tmps.getD t undef=u) (hg:w.heap[g]? =some (.cells cs T fr))
 (hu:P.underlying ty=some d) (hd:(match d with| .struct _| .array _ _=>true|_=>false)=true) (hi:(P.info? ty).map (·.size)=some cs.size):
 (results fn tmps).run P w= .ok (.tuple #[.agg cs,u]) w:=by
 have hp':tmps[p]?.getD undef= .pointer (some ⟨g,0,none⟩):=by simpa using hp
 have ht':tmps[t]?.getD undef=u:=by simpa using ht
 simp [results,h,hp',ht',asAddr,run_loadVar_row w g T ty cs fr d hg hu hd hi]
theorem Bx.zero6 {w:World} {g:Nat} {T:TypeId} {x0 x1 x2 x3 x4 x5:Value} (h:Bx w g #[x0,x1,x2,x3,x4,x5] T)(a b c d e f:Value):Bx ((((((w.setCell ⟨g,0,none⟩ a).setCell ⟨g,1,none⟩ b).setCell ⟨g,2,none⟩ c).setCell ⟨g,3,none⟩ d).setCell ⟨g,4,none⟩ e).setCell ⟨g,5,none⟩ f) g #[a,b,c,d,e,f] T:=by
 have h0:Bx (w.setCell ⟨g,0,none⟩ a) g #[a,x1,x2,x3,x4,x5] T:=h.put 0 a;have h1:Bx _ g #[a,b,x2,x3,x4,x5] T:=h0.put 1 b;have h2:Bx _ g #[a,b,c,x3,x4,x5] T:=h1.put 2 c;have h3:Bx _ g #[a,b,c,d,x4,x5] T:=h2.put 3 d;have h4:Bx _ g #[a,b,c,d,e,x5] T:=h3.put 4 e;exact h4.put 5 f
theorem But.set6 {C B:Nat} {a w:World} (h:But C B a w){g:Nat} (hg:B≤g)(q b c d e f:Value):But C B a ((((((w.setCell ⟨g,0,none⟩ q).setCell ⟨g,1,none⟩ b).setCell ⟨g,2,none⟩ c).setCell ⟨g,3,none⟩ d).setCell ⟨g,4,none⟩ e).setCell ⟨g,5,none⟩ f):=
 (((((h.setCell (p:=⟨g,0,none⟩) (.inl hg) q).setCell (p:=⟨g,1,none⟩) (.inl hg) b).setCell (p:=⟨g,2,none⟩) (.inl hg) c).setCell (p:=⟨g,3,none⟩) (.inl hg) d).setCell (p:=⟨g,4,none⟩) (.inl hg) e).setCell (p:=⟨g,5,none⟩) (.inl hg) f
theorem InAt.set6 {w:World} {K:Nat} {s:InS} (h:InAt w K s){g:Nat} (hg:K≠g)(q b c d e f:Value):InAt ((((((w.setCell ⟨g,0,none⟩ q).setCell ⟨g,1,none⟩ b).setCell ⟨g,2,none⟩ c).setCell ⟨g,3,none⟩ d).setCell ⟨g,4,none⟩ e).setCell ⟨g,5,none⟩ f) K s:=
 (((((h.set hg 0 q).set hg 1 b).set hg 2 c).set hg 3 d).set hg 4 e).set hg 5 f
theorem ZnE (K:Nat)(s:InS)(v:Int)(sp:Bool)(w:World)(h:InAt w K s)(hc:Zx v.toNat=0∨s.e≠0∨s.left=0∨s.peek 1=[0]):
 Calls Tryz.prog 193 #[.int .i64 v,.pointer (some ⟨K,0,none⟩),.bool sp] w (ZeZ K w (ZaM v.toNat s sp)):=by
 have hR:ZaM v.toNat s sp=(none,s):=by unfold ZaM;rw [if_pos hc]
 rw [hR];generalize hP:ZeZ K w (none,s)=P at*;have hlt:=fun w=>ZeU v w;have H:=Lib.hid h;have hfa:=fun w h=>Zcp K s w h;have hle:=fun w h=>Zg0 K s w h;have hpk:=fun w h=>Zjr K s 1 w h (by omega);have hKl:=h.lt;clear h hR;by_cases h0:Zx v.toNat=0
 · rw [h0] at hlt;clear h0 hc;go_enter Tryz.func193,Tryz.ntmps193
   go_wp2_with (go_at_call 147;refine(hlt _).mono ?_;rintro e w1 ⟨rfl,rfl⟩)
   have hr:=Bx.new w zero6 34;refine bodyPost_ret (results_cell_tmp rfl _ _ w.heap.size _ _ _ _ _ rfl rfl hr Tryz.underlying34 rfl (by kernel_rfl)) rfl ?_;rw [←hP];exact⟨H.out.alloc _,(But.refl _ _ _).alloc (Nat.le_refl _) _,rfl⟩
 · have hl0:0<Zx v.toNat:=by omega
   by_cases h1:s.e=0
   · have hbd:=fun w=>ZT (s.e:Int) s.a (by omega) w;have hl1:((Zx v.toNat:Int)==0)=false:=by rw [beq_eq_false_iff_ne];omega
     by_cases h2:s.left=0
     · rw [h2] at hle;clear hc h0 h1 h2;go_enter Tryz.func193,Tryz.ntmps193
       go_wp2_with (first
        |(go_at_call 147;refine(hlt _).mono ?_;rintro e w1 ⟨rfl,rfl⟩)
        |(go_at_call 53;refine(hfa _ (H.out.alloc _)).mono ?_;rintro e w2 ⟨rfl,hb2⟩;have H2:=Lib.hid ((H.out.alloc _).below hb2);have B2:=Lib.hid (Ze hb2);have R2:=Lib.hid ((Bx.new w _ _).below hb2);have hz2:=Z9 hb2;clear hb2)
        |(go_at_call 7;refine(hbd _).mono ?_;rintro e w3 ⟨rfl,hb3⟩;have H3:=Lib.hid (H2.out.below hb3);have B3:=Lib.hid (B2.out.trans (hb3.mono B2.out.size));have R3:=Lib.hid (R2.out.below hb3);have hz3:=hb3.size;clear hb3)
        |(go_at_call 121;refine(hle _ H3.out).mono ?_;rintro e w4 ⟨rfl,hb4⟩;have H4:=Lib.hid (H3.out.below hb4);have B4:=Lib.hid (B3.out.trans (hb4.mono B3.out.size));have R4:=Lib.hid (R3.out.below hb4);have hz4:=hb4.size;have c0:=R4.out.cell 0;have c1:=R4.out.cell 1;have c2:=R4.out.cell 2;have c3:=R4.out.cell 3;have c4:=R4.out.cell 4;have c5:=R4.out.cell 5;have f0:=R4.out.free;clear hb4))
       have hr:=R4.out.zero6 (.string ⟨#[]⟩) (.int .u8 0) (.int .u8 0) (.int .u8 0) (.string ⟨#[]⟩) (.int .i64 0);refine bodyPost_ret (results_cell_tmp rfl _ _ w.heap.size _ _ _ _ _ rfl rfl hr Tryz.underlying34 rfl (by kernel_rfl)) rfl ?_;rw [←hP];exact⟨H4.out.set6 (by omega) _ _ _ _ _ _,(But.of B4.out).set6 (Nat.le_refl _) _ _ _ _ _ _,rfl⟩
     · have h3:s.peek 1=[0]:=by
        rcases hc with h|h|h|h
        · exact absurd h h0
        · exact absurd h1 h
        · exact absurd h h2
        · exact h
       have hl2:((s.left:Int)==0)=false:=by rw [beq_eq_false_iff_ne];omega
       rw [h3] at hpk;have hq:((B [0]).toList==[0])=true:=by rw [seqB];rfl
       have hq2:(B [0]).toList=[0]:=ZhY _;clear hc h0 h1 h2 h3;go_enter Tryz.func193,Tryz.ntmps193
       go_wp2_with (first
        |(go_at_call 147;refine(hlt _).mono ?_;rintro e w1 ⟨rfl,rfl⟩)
        |(go_at_call 53;refine(hfa _ (H.out.alloc _)).mono ?_;rintro e w2 ⟨rfl,hb2⟩;have H2:=Lib.hid ((H.out.alloc _).below hb2);have B2:=Lib.hid (Ze hb2);have R2:=Lib.hid ((Bx.new w _ _).below hb2);have hz2:=Z9 hb2;clear hb2)
        |(go_at_call 7;refine(hbd _).mono ?_;rintro e w3 ⟨rfl,hb3⟩;have H3:=Lib.hid (H2.out.below hb3);have B3:=Lib.hid (B2.out.trans (hb3.mono B2.out.size));have R3:=Lib.hid (R2.out.below hb3);have hz3:=hb3.size;clear hb3)
        |(go_at_call 121;refine(hle _ H3.out).mono ?_;rintro e w4 ⟨rfl,hb4⟩;have H4:=Lib.hid (H3.out.below hb4);have B4:=Lib.hid (B3.out.trans (hb4.mono B3.out.size));have R4:=Lib.hid (R3.out.below hb4);have hz4:=hb4.size;clear hb4)
        |(go_at_call 254;refine(hpk _ H4.out).mono ?_;rintro e w5 ⟨rfl,hb5⟩;have H5:=Lib.hid (H4.out.below hb5);have B5:=Lib.hid (B4.out.trans (hb5.mono B4.out.size));have R5:=Lib.hid (R4.out.below hb5);have hz5:=hb5.size;have c0:=R5.out.cell 0;have c1:=R5.out.cell 1;have c2:=R5.out.cell 2;have c3:=R5.out.cell 3;have c4:=R5.out.cell 4;have c5:=R5.out.cell 5;have f0:=R5.out.free;clear hb5))
       have hr:=R5.out.zero6 (.string ⟨#[]⟩) (.int .u8 0) (.int .u8 0) (.int .u8 0) (.string ⟨#[]⟩) (.int .i64 0);refine bodyPost_ret (results_cell_tmp rfl _ _ w.heap.size _ _ _ _ _ rfl rfl hr Tryz.underlying34 rfl (by kernel_rfl)) rfl ?_;rw [←hP];exact⟨H5.out.set6 (by omega) _ _ _ _ _ _,(But.of B5.out).set6 (Nat.le_refl _) _ _ _ _ _ _,rfl⟩
   · have hbd:=fun w=>Zaq (s.e:Int) s.a (by omega) w;have hl1:((Zx v.toNat:Int)==0)=false:=by rw [beq_eq_false_iff_ne];omega
     clear hc h0 h1;go_enter Tryz.func193,Tryz.ntmps193
     go_wp2_with (first
      |(go_at_call 147;refine(hlt _).mono ?_;rintro e w1 ⟨rfl,rfl⟩)
      |(go_at_call 53;refine(hfa _ (H.out.alloc _)).mono ?_;rintro e w2 ⟨rfl,hb2⟩;have H2:=Lib.hid ((H.out.alloc _).below hb2);have B2:=Lib.hid (Ze hb2);have R2:=Lib.hid ((Bx.new w _ _).below hb2);have hz2:=Z9 hb2;clear hb2)
      |(go_at_call 7;refine(hbd _).mono ?_;rintro e w3 ⟨rfl,hb3⟩;have H3:=Lib.hid (H2.out.below hb3);have B3:=Lib.hid (B2.out.trans (hb3.mono B2.out.size));have R3:=Lib.hid (R2.out.below hb3);have hz3:=hb3.size;have c0:=R3.out.cell 0;have c1:=R3.out.cell 1;have c2:=R3.out.cell 2;have c3:=R3.out.cell 3;have c4:=R3.out.cell 4;have c5:=R3.out.cell 5;have f0:=R3.out.free;clear hb3))
     have hr:=R3.out.zero6 (.string ⟨#[]⟩) (.int .u8 0) (.int .u8 0) (.int .u8 0) (.string ⟨#[]⟩) (.int .i64 0);refine bodyPost_ret (results_cell_tmp rfl _ _ w.heap.size _ _ _ _ _ rfl rfl hr Tryz.underlying34 rfl (by kernel_rfl)) rfl ?_;rw [←hP];exact⟨H3.out.set6 (by omega) _ _ _ _ _ _,(But.of B3.out).set6 (Nat.le_refl _) _ _ _ _ _ _,rfl⟩
theorem Zuo {w:World} {R:Nat} {T:TypeId} (h:Bx w R zero6 T):w.cell? ⟨R,0,none⟩=some (.string ⟨#[]⟩)∧w.cell? ⟨R,1,none⟩=some (.int .u8 0)∧w.cell? ⟨R,2,none⟩=some (.int .u8 0)∧w.cell? ⟨R,3,none⟩=some (.int .u8 0)∧w.cell? ⟨R,4,none⟩=some (.string ⟨#[]⟩)∧w.cell? ⟨R,5,none⟩=some (.int .i64 0):=
 ⟨h.cell 0,h.cell 1,h.cell 2,h.cell 3,h.cell 4,h.cell 5⟩
theorem ZnC (K:Nat)(s:InS)(v:Int)(sp:Bool)(w:World)(h:InAt w K s)(h1:Zx v.toNat≠0)(h2:s.e=0)(h3:s.left≠0)(h4:s.peek 1≠[0]):
 Calls Tryz.prog 193 #[.int .i64 v,.pointer (some ⟨K,0,none⟩),.bool sp] w (ZeZ K w (ZaM v.toNat s sp)):=by
 obtain⟨i,hi⟩:∃i,i=s.take (Zx v.toNat):=⟨_,rfl⟩
 obtain⟨s1,hs1⟩:∃s1,s1=if Zal i.1<i.1.length then i.2.fail 1 (s.at_+Zal i.1) else i.2:=⟨_,rfl⟩
 obtain⟨m,hm⟩:∃m,m=ZbT v.toNat s1:=⟨_,rfl⟩
 obtain⟨g,hg⟩:∃g:Nat×InS,g=if 2<v.toNat then m.2.big 2 else(0,m.2):=⟨_,rfl⟩
 obtain⟨fm,hfm⟩:∃fm:UInt8,fm=UInt8.ofNat g.1|||(if v.toNat=4∧sp=true then 2 else 0):=⟨_,rfl⟩
 obtain⟨d,hd⟩:∃d,d=g.2.take m.1:=⟨_,rfl⟩
 have hR:ZaM v.toNat s sp=if d.2.e≠0 then(none,d.2) else
  match Zbp v.toNat ⟨i.1,UInt8.ofNat (g.1 / 256),fm,0,[],s.at_⟩ d.1 g.2.at_ with
  | .error x=>(none,d.2.fail x.1 x.2)
  | .ok f=>(some f,d.2):=by
  subst hd hfm hg hm hs1 hi;unfold ZaM;rw [if_neg (by rintro(h|h|h|h)<;>contradiction)];rfl
 generalize hP:ZeZ K w (ZaM v.toNat s sp)=P at*;have hll:Zx v.toNat≤4:=by
  unfold Zx;split
  · omega
  · split<;>omega
 have hil:i.1.length≤4:=by rw [hi];have:=Zd4 s (Zx v.toNat);omega
 have hsn:s.n≤1000000000:=by have:=h.fits;have:=h.len;omega
 have hae:s.at_=s.base+s.n:=Zdp s s.n h.base hsn;have hba:=h.base;have hat:s.at_≤2000000000:=by omega
 obtain⟨st8,hst8⟩:∃x,x=UInt8.ofNat (g.1 / 256):=⟨_,rfl⟩
 obtain⟨g8,hg8⟩:∃x,x=UInt8.ofNat g.1:=⟨_,rfl⟩
 rw [←hst8] at hR;rw [←hg8] at hfm;have Hst8:=Lib.hid hst8;have Hg8:=Lib.hid hg8;clear hst8 hg8;have Hs1:=Lib.hid hs1;have Hg:=Lib.hid hg;have Hm:=Lib.hid hm;have Hd:=Lib.hid hd;have Hfm:=Lib.hid hfm;have HR:=Lib.hid hR;have hLt:=fun w=>ZeU v w;have hfa:=fun w h=>Zcp K s w h;have hle:=fun w h=>Zg0 K s w h;have hpk:=fun w h=>Zjr K s 1 w h (by omega);have hAt:=fun w h=>Zb0 K s w h;have hbd:=fun w=>ZT (s.e:Int) s.a (by omega) w;have hl1:((Zx v.toNat:Int)==0)=false:=by rw [beq_eq_false_iff_ne];omega
 have hl2:((s.left:Int)==0)=false:=by rw [beq_eq_false_iff_ne];omega
 have hq:((B (s.peek 1)).toList==[0])=false:=by rw [seqB];simpa using h4
 have hTk:=fun w h=>ZcP K s (Zx v.toNat) (by omega) (by omega) w h;rw [Int.toNat_natCast,←hi] at hTk;unfold Zf at hTk;have hwr:=fun w=>ZjN i.1 (by omega) w;have hszi:=Zl i.1;have hKl:=h.lt;have H:=Lib.hid h;have Ha:=Lib.hid (show s.at_=s.at_ from rfl);clear h h1 h2 h3 h4 hi hs1 hm hg hfm hd hR hae;generalize s.at_=at0 at*;go_enter Tryz.func193,Tryz.ntmps193
 go_upto_if 57 with(first
  |(go_at_call 147;refine(hLt _).mono ?_;rintro e w1 ⟨rfl,rfl⟩)
  |(go_at_call 53;refine(hfa _ (H.out.alloc _)).mono ?_;rintro e w2 ⟨rfl,hb2⟩;have H2:=Lib.hid ((H.out.alloc _).below hb2);have B2:=Lib.hid (Ze hb2);have R2:=Lib.hid ((Bx.new w _ _).below hb2);have hz2:=Z9 hb2;clear hb2)
  |(go_at_call 7;refine(hbd _).mono ?_;rintro e w3 ⟨rfl,hb3⟩;have H3:=Lib.hid (H2.out.below hb3);have B3:=Lib.hid (B2.out.trans (hb3.mono B2.out.size));have R3:=Lib.hid (R2.out.below hb3);have hz3:=hb3.size;clear hb3)
  |(go_at_call 121;refine(hle _ H3.out).mono ?_;rintro e w4 ⟨rfl,hb4⟩;have H4:=Lib.hid (H3.out.below hb4);have B4:=Lib.hid (B3.out.trans (hb4.mono B3.out.size));have R4:=Lib.hid (R3.out.below hb4);have hz4:=hb4.size;clear hb4)
  |(go_at_call 254;refine(hpk _ H4.out).mono ?_;rintro e w5 ⟨rfl,hb5⟩;have H5:=Lib.hid (H4.out.below hb5);have B5:=Lib.hid (B4.out.trans (hb5.mono B4.out.size));have R5:=Lib.hid (R4.out.below hb5);have hz5:=hb5.size;clear hb5)
  |(go_at_call 55;refine(hAt _ H5.out).mono ?_;rintro e w6 ⟨rfl,rfl⟩;have ST:Hid (PSt w (w5.alloc (.cells (six ⟨[],0,0,0,[],at0⟩) 34)) K w.heap.size w5.heap.size ⟨[],0,0,0,[],at0⟩ s):=Lib.hid ⟨Bx.new w5 _ _,H5.out.alloc _,R5.out.alloc _,(But.of B5.out).alloc (by omega) _,hKl,rfl,by omega⟩;have hw5:w.heap.size<w5.heap.size:=(by omega))
  |(go_at_call 57;refine(hTk _ ST.out.inn).mono ?_;rintro e w7 ⟨rfl,h7,hb7⟩;have ST2:=Lib.hid (ST.out.butK h7 hb7);clear h7 hb7;obtain⟨⟨d0,d1,d2,d3,d4,d5⟩,⟨r0,r1,r2,r3,r4,r5⟩,f0,f1,l1,l2⟩:=ST2.out.cells)
  |(go_at_call 255;refine(hwr _).mono ?_;rintro e w8 ⟨rfl,rfl⟩))
 have ST3:=Lib.hid (ST2.out.set (ST2.out.frame.setId i.1));go_cut [] (fun wx=>PSt w wx K w.heap.size w5.heap.size ⟨i.1,0,0,0,[],at0⟩ s1)
 case first=>
  by_cases hw:Zal i.1<i.1.length
  · have hfi:=fun w h=>Za5 K i.2 1 ((at0:Int)+Zal i.1) (by decide) (by omega) w h;have hs:=Hs1.out;rw [if_pos hw] at hs;rw [show(1:Int).toNat=1 from rfl,show((at0:Int)+Zal i.1).toNat=at0+Zal i.1 by omega,←hs] at hfi;unfold Zf at hfi;clear hs;go_wp2_with (go_at_call 110;refine(hfi _ ST3.out.inn).mono ?_;rintro e w8 ⟨rfl,h8,hb8⟩;have ST4:=Lib.hid (ST3.out.butK h8 hb8))
    go_meet
    exact ST4.out
  · have hs:=Hs1.out;rw [if_neg hw] at hs;have Hs:=Lib.hid hs;clear hs;go_wp2_with fail
    go_meet
    rw [Hs.out];exact ST3.out
 case rest=>
  have ST4:=Lib.hid hcut;clear hcut d0 d1 d2 d3 d4 d5 r0 r1 r2 r3 r4 r5 f0 f1 l1 l2;have hsz:=fun w h=>ZoT K s1 v w h;rw [←Hm.out] at hsz;unfold Zf at hsz
  go_upto_if 68 with(go_at_call 256;refine(hsz _ ST4.out.inn).mono ?_;rintro e w9 ⟨rfl,h9,hb9⟩;have ST5:=Lib.hid (ST4.out.butK h9 hb9);clear h9 hb9;obtain⟨⟨d0,d1,d2,d3,d4,d5⟩,⟨r0,r1,r2,r3,r4,r5⟩,f0,f1,l1,l2⟩:=ST5.out.cells)
  try simp only at d0 d1 d2 d3 d4 d5
  go_cut [] (fun wx=>PSt w wx K w.heap.size w5.heap.size ⟨i.1,st8,g8,0,[],at0⟩ g.2)
  case first=>
   by_cases hv:v>2
   · have hbg:=fun w h=>ZcN K m.2 2 (by omega) w h;have hgg:=Hg.out;rw [if_pos (by omega)] at hgg;have hgl:=Zcs m.2 2 (by omega);rw [←hgg] at hgl hbg;have hgl2:g.1<65536:=hgl;unfold Zf at hbg;clear hgg hgl;have ez1:((g.1:Int) / 256)=st8.toNat:=by rw [Hst8.out,UInt8.toNat_ofNat'];omega
     have ez2:((g.1:Int) % 256)=g8.toNat:=by rw [Hg8.out,UInt8.toNat_ofNat'];omega
     have Ez1:=Lib.hid ez1;have Ez2:=Lib.hid ez2;clear ez1 ez2;go_wp2_with (go_at_call 56;refine(hbg _ ST5.out.inn).mono ?_;rintro e w10 ⟨rfl,h10,hb10⟩;have ST6:=Lib.hid (ST5.out.butK h10 hb10);clear h10 hb10 d0 d1 d2 d3 d4 d5 r0 r1 r2 r3 r4 r5 f0 f1;obtain⟨⟨d0,d1,d2,d3,d4,d5⟩,⟨r0,r1,r2,r3,r4,r5⟩,f0,f1,l3,l4⟩:=ST6.out.cells)
     go_meet
     have q1:=ST6.out.set (ST6.out.frame.setSt _ _ Ez1.out);exact q1.set (q1.frame.setFm _ _ Ez2.out)
   · have hgg:=Hg.out;rw [if_neg (by omega)] at hgg;have Hgg:=Lib.hid hgg;clear hgg;go_wp2_with fail
     go_meet
     rw [Hst8.out,Hg8.out,Hgg.out];simpa using ST5.out
  case rest=>
   have ST6:=Lib.hid hcut;clear hcut d0 d1 d2 d3 d4 d5 r0 r1 r2 r3 r4 r5 f0 f1 l1 l2;obtain⟨⟨d0,d1,d2,d3,d4,d5⟩,⟨r0,r1,r2,r3,r4,r5⟩,f0,f1,l1,l2⟩:=ST6.out.cells
   try simp only at d0 d1 d2 d3 d4 d5
   go_upto_region 14 with fail
   go_cut [84] (fun s84 wx=>s84= .bool (decide (v=4)&&sp)∧PSt w wx K w.heap.size w5.heap.size ⟨i.1,st8,g8,0,[],at0⟩ g.2)
   case first=>
    by_cases hv:v=4
    · subst hv;go_wp2_with fail
      go_meet
      exact⟨rfl,ST6.out⟩
    · have hv4:(v==4)=false:=by simpa using hv
      have hd4:decide (v=4)=false:=by simpa using hv
      clear hv;go_wp2_with fail
      go_meet
      exact⟨by rw [hd4];rfl,ST6.out⟩
   obtain⟨rfl,hcut⟩:=hcut;have ST6':=Lib.hid hcut;clear hcut ST6 d0 d1 d2 d3 d4 d5 r0 r1 r2 r3 r4 r5 f0 f1 l1 l2;obtain⟨⟨d0,d1,d2,d3,d4,d5⟩,⟨r0,r1,r2,r3,r4,r5⟩,f0,f1,l1,l2⟩:=ST6'.out.cells
   try simp only at d0 d1 d2 d3 d4 d5
   go_upto_if 84 with fail
   go_cut [] (fun wx=>PSt w wx K w.heap.size w5.heap.size ⟨i.1,st8,fm,0,[],at0⟩ g.2)
   case first=>
    have hor:=or_u8 g8 2 2 rfl;cases hb:(decide (v=4)&&sp) with
    |true=>
     have hf:=Hfm.out;rw [Bool.and_eq_true,decide_eq_true_eq] at hb;rw [if_pos ⟨by omega,hb.2⟩] at hf;have Hf:=Lib.hid hf;clear hf hb;go_wp2_with fail
     go_meet
     exact ST6'.out.set (ST6'.out.frame.setFm _ _ (by rw [Hf.out];simp))
    |false=>
     have hf:=Hfm.out;rw [if_neg (by
      rintro⟨h1,h2⟩;rw [h2,Bool.and_true,decide_eq_false_iff_not] at hb;omega)] at hf
     have Hf:Hid (fm=g8):=Lib.hid (by rw [hf];simp);clear hf;go_wp2_with fail
     go_meet
     rw [Hf.out];exact ST6'.out
   case rest=>
    have ST7:=Lib.hid hcut;clear hcut d0 d1 d2 d3 d4 d5 r0 r1 r2 r3 r4 r5 f0 f1 l1 l2;have hmb:m.1≤9223372036854775807:=by
     rw [Hm.out];unfold ZbT;have h3:=Zcs s1 3 (by omega);have h4:=Zcs s1 4 (by omega);have h5:=ZgC s1;have e3:(256:Nat)^3=16777216:=by decide
     have e4:(256:Nat)^4=4294967296:=by decide
     split
     · omega
     · split<;>omega
    have hAt2:=fun w h=>Zb0 K g.2 w h;have hTk2:=fun w h=>ZcP K g.2 m.1 (by omega) (by omega) w h;rw [Int.toNat_natCast,←Hd.out] at hTk2;unfold Zf at hTk2;have hfa2:=fun w h=>Zcp K d.2 w h;obtain⟨at2,hat2⟩:∃x,x=g.2.at_:=⟨_,rfl⟩
    have hroom:at2+d.1.length≤1000000000:=by
     have h1:=ST7.out.inn.room;have h2:=ST7.out.inn.fits;have h3:=ST7.out.inn.base;have h4:=ST7.out.inn.len;rw [hat2,InS.at_,Zdp g.2 g.2.n h3 (by omega),Hd.out];unfold InS.take;split
     · simp;omega
     · split
       · simp;omega
       · simp;omega
    rw [←hat2] at hAt2;have hRR:=HR.out;rw [←hat2] at hRR;have HRR:=Lib.hid hRR;clear hRR hat2;by_cases hE:d.2.e=0
    · have hbd2:=fun w=>ZT (d.2.e:Int) d.2.a (by omega) w;have hRR:=HRR.out;rw [if_neg (by simpa using hE)] at hRR;have HR3:=Lib.hid hRR;have hE0:=Lib.hid hE;clear hRR hE;obtain⟨r,hr⟩:∃r,r=Zbp v.toNat ⟨i.1,st8,fm,0,[],at0⟩ d.1 at2:=⟨_,rfl⟩
      have hfl:∀w,Zp w w5.heap.size ⟨i.1,st8,fm,0,[],at0⟩→Calls Tryz.prog 257 #[.pointer (some ⟨w5.heap.size,0,none⟩),.int .i64 v,.string (B d.1),.int .i64 at2] w (ZdE w5.heap.size w r):=by
       intro w h;rw [hr];by_cases hl:ZJ v.toNat fm=true
       · have:=ZnS w5.heap.size _ v d.1 (at2:Int) w h hl
         rwa [Int.toNat_natCast] at this
       · have:=ZnT w5.heap.size _ v d.1 (at2:Int) (by omega) (by omega) w h (by simpa using hl)
         rwa [Int.toNat_natCast] at this
      have HR4:=HR3.out;rw [←hr] at HR4;have HR5:=Lib.hid HR4;clear HR4 HR3 hr;cases r with
      |ok f'=>
       unfold ZdE at hfl;simp only at hfl;have hr6:ZaM v.toNat s sp=(some f',d.2):=HR5.out;have HR6:=Lib.hid hr6;have hb0:=fun w=>ZT 0 0 rfl w;clear hr6;go_wp2_with (first
        |(go_at_call 55;refine(hAt2 _ ST7.out.inn).mono ?_;rintro e w10 ⟨rfl,rfl⟩)
        |(go_at_call 57;refine(hTk2 _ ST7.out.inn).mono ?_;rintro e w11 ⟨rfl,h11,hb11⟩;have ST8:=Lib.hid (ST7.out.butK h11 hb11);clear h11 hb11)
        |(go_at_call 53;refine(hfa2 _ ST8.out.inn).mono ?_;rintro e w12 ⟨rfl,hb12⟩;have ST9:=Lib.hid (ST8.out.below hb12);clear hb12)
        |(go_at_call 7;refine(hbd2 _).mono ?_;rintro e w13 ⟨rfl,hb13⟩;have STa:=Lib.hid (ST9.out.below hb13);clear hb13)
        |(go_at_call 257;refine(hfl _ STa.out.frame).mono ?_;rintro e w14 ⟨hb14,rfl,h14⟩;have STb:Hid (PSt w w14 K w.heap.size w5.heap.size f' d.2):=Lib.hid ⟨h14,STa.out.inn.but hb14 (by omega),STa.out.res.but hb14 (by omega),STa.out.but.trans (.of ((hb14.mono STa.out.but.size).below (by omega))),hKl,rfl,hw5⟩;clear h14 hb14)
        |(go_at_call 7;refine(hb0 _).mono ?_;rintro e w15 ⟨rfl,hb15⟩;have STc:=Lib.hid ((STb.out.alloc _).below hb15);clear hb15;obtain⟨⟨d0,d1,d2,d3,d4,d5⟩,⟨r0,r1,r2,r3,r4,r5⟩,f0,f1,l1,l2⟩:=STc.out.cells))
       have hr:=STc.out.res.zero6 (.string (B f'.id)) (.int .u8 f'.st.toNat) (.int .u8 f'.fm.toNat) (.int .u8 f'.grp.toNat) (.string (B f'.body)) (.int .i64 f'.at_);refine bodyPost_ret (results_cell_tmp rfl _ _ w.heap.size _ _ _ _ _ rfl rfl hr Tryz.underlying34 rfl (by kernel_rfl)) rfl ?_;rw [←hP,HR6.out];exact⟨STc.out.inn.set6 (by omega) _ _ _ _ _ _,STc.out.but.set6 (Nat.le_refl _) _ _ _ _ _ _,rfl⟩
      |error x=>
       unfold ZdE at hfl;simp only at hfl;have hr6:ZaM v.toNat s sp=(none,d.2.fail x.1 x.2):=HR5.out;have HR6:=Lib.hid hr6;have hff:=fun(h0:x.1≠0) w h=>Za5 K d.2 x.1 x.2 (by omega) (by omega) w h;simp only [Int.toNat_natCast] at hff;unfold Zf at hff;clear hr6;go_wp2_with (first
        |(go_at_call 55;refine(hAt2 _ ST7.out.inn).mono ?_;rintro e w10 ⟨rfl,rfl⟩)
        |(go_at_call 57;refine(hTk2 _ ST7.out.inn).mono ?_;rintro e w11 ⟨rfl,h11,hb11⟩;have ST8:=Lib.hid (ST7.out.butK h11 hb11);clear h11 hb11)
        |(go_at_call 53;refine(hfa2 _ ST8.out.inn).mono ?_;rintro e w12 ⟨rfl,hb12⟩;have ST9:=Lib.hid (ST8.out.below hb12);clear hb12)
        |(go_at_call 7;refine(hbd2 _).mono ?_;rintro e w13 ⟨rfl,hb13⟩;have STa:=Lib.hid (ST9.out.below hb13);clear hb13)
        |(go_at_call 257;refine(hfl _ STa.out.frame).mono ?_;rintro e w14 ⟨hb14,rfl,hx0⟩;have hHi:Hid (InAt w14 K d.2):=Lib.hid (STa.out.inn.but hb14 (by omega));have hHr:Hid (Bx w14 w.heap.size zero6 34):=Lib.hid (STa.out.res.but hb14 (by omega));have hHb:Hid (But K w.heap.size w w14):=Lib.hid (STa.out.but.trans (.of ((hb14.mono STa.out.but.size).below (by omega))));have hby:=fun w=>Zaq (x.1:Int) x.2 (by omega) w;have hz14:=hb14.size;have hf2:=hff hx0;have Hf2:=Lib.hid hf2;clear hb14 hf2 hx0)
        |(go_at_call 7;refine(hby _).mono ?_;rintro e w15 ⟨rfl,hb15⟩;have BX:=Lib.hid ((Bx.new w14 _ _).below hb15);have hHi2:=Lib.hid ((hHi.out.alloc _).below hb15);have hHr2:=Lib.hid ((hHr.out.alloc _).below hb15);have hHb2:=Lib.hid ((hHb.out.alloc hHb.out.size _).trans (.of (hb15.mono (by have:=hHb.out.size;simp;omega))));clear hb15;have x0:=BX.out.cell 0;have x1:=BX.out.cell 1)
        |(go_at_call 110;refine(Hf2.out _ hHi2.out).mono ?_;rintro e w16 ⟨rfl,h16,hb16⟩;have hHr3:=Lib.hid (hHr2.out.but hb16 (by omega));have hHb3:=Lib.hid (hHb2.out.trans (hb16.mono hHb2.out.size));have hHi3:=Lib.hid h16;obtain⟨r0,r1,r2,r3,r4,r5⟩:=Zuo hHr3.out;have f0:=hHr3.out.free;have l0:=hHr3.out.lt;clear hb16 h16))
       have hr:=hHr3.out.zero6 (.string ⟨#[]⟩) (.int .u8 0) (.int .u8 0) (.int .u8 0) (.string ⟨#[]⟩) (.int .i64 0);refine bodyPost_ret (results_cell_tmp rfl _ _ w.heap.size _ _ _ _ _ rfl rfl hr Tryz.underlying34 rfl (by kernel_rfl)) rfl ?_;rw [←hP,HR6.out];exact⟨hHi3.out.set6 (by omega) _ _ _ _ _ _,hHb3.out.set6 (Nat.le_refl _) _ _ _ _ _ _,rfl⟩
    · have hbd2:=fun w=>Zaq (d.2.e:Int) d.2.a (by omega) w;have hRR:=HRR.out;rw [if_pos hE] at hRR;have HR3:=Lib.hid hRR;clear hRR hE;go_wp2_with (first
       |(go_at_call 55;refine(hAt2 _ ST7.out.inn).mono ?_;rintro e w10 ⟨rfl,rfl⟩)
       |(go_at_call 57;refine(hTk2 _ ST7.out.inn).mono ?_;rintro e w11 ⟨rfl,h11,hb11⟩;have ST8:=Lib.hid (ST7.out.butK h11 hb11);clear h11 hb11)
       |(go_at_call 53;refine(hfa2 _ ST8.out.inn).mono ?_;rintro e w12 ⟨rfl,hb12⟩;have ST9:=Lib.hid (ST8.out.below hb12);clear hb12)
       |(go_at_call 7;refine(hbd2 _).mono ?_;rintro e w13 ⟨rfl,hb13⟩;have STa:=Lib.hid (ST9.out.below hb13);clear hb13;obtain⟨⟨d0,d1,d2,d3,d4,d5⟩,⟨r0,r1,r2,r3,r4,r5⟩,f0,f1,l1,l2⟩:=STa.out.cells))
      have hr:=STa.out.res.zero6 (.string ⟨#[]⟩) (.int .u8 0) (.int .u8 0) (.int .u8 0) (.string ⟨#[]⟩) (.int .i64 0);refine bodyPost_ret (results_cell_tmp rfl _ _ w.heap.size _ _ _ _ _ rfl rfl hr Tryz.underlying34 rfl (by kernel_rfl)) rfl ?_;rw [←hP,HR3.out];exact⟨STa.out.inn.set6 (by omega) _ _ _ _ _ _,STa.out.but.set6 (Nat.le_refl _) _ _ _ _ _ _,rfl⟩
theorem ZnB (K:Nat)(s:InS)(v:Int)(sp:Bool)(w:World)(h:InAt w K s):
 Calls Tryz.prog 193 #[.int .i64 v,.pointer (some ⟨K,0,none⟩),.bool sp] w (ZeZ K w (ZaM v.toNat s sp)):=by
 by_cases hc:Zx v.toNat=0∨s.e≠0∨s.left=0∨s.peek 1=[0]
 · exact ZnE K s v sp w h hc
 · exact ZnC K s v sp w h (fun e=>hc (.inl e)) (Classical.byContradiction fun e=>hc (.inr (.inl e))) (fun e=>hc (.inr (.inr (.inl e)))) (fun e=>hc (.inr (.inr (.inr e))))
theorem ZfU (m:UInt8)(z:Int)(c:UInt8)(hz:z=c.toNat):bits .andNot .u8 (m.toNat:Int) z=((m&&& ~~~c).toNat:Int):=by
 subst hz;rw [u8_andNot_nat m.toNat c.toNat m.toNat_lt c.toNat_lt,UInt8.toNat_and,UInt8.toNat_not];rfl
theorem ZiZ (v:Int)(w:World):Calls Tryz.prog 146 #[.int .i64 v] w fun e w'=>e= .returned (.int .u8 (Zbn v.toNat).toNat)∧w=w':=by
 by_cases h2:v=2
 · subst h2;go_enter Tryz.func146,Tryz.ntmps146
   go_wp2_with fail
   go_ret
   exact⟨rfl,rfl⟩
 · by_cases h3:v=3
   · subst h3;go_enter Tryz.func146,Tryz.ntmps146
     go_wp2_with fail
     go_ret
     exact⟨rfl,rfl⟩
   · by_cases h4:v=4
     · subst h4;go_enter Tryz.func146,Tryz.ntmps146
       go_wp2_with fail
       go_ret
       exact⟨rfl,rfl⟩
     · have e2:(v==2)=false:=by simpa using h2
       have e3:(v==3)=false:=by simpa using h3
       have e4:(v==4)=false:=by simpa using h4
       have hl:Zbn v.toNat=0:=by
        unfold Zbn;rw [if_neg (by omega),if_neg (by omega),if_neg (by omega)]
       have Hl:=Lib.hid hl;clear hl;go_enter Tryz.func146,Tryz.ntmps146
       go_wp2_with fail
       go_ret
       exact⟨ZbU (by rw [Hl.out];rfl),rfl⟩
theorem Zhc (v:Int)(rev fl:UInt8)(w:World):
 Calls Tryz.prog 149 #[.agg #[.int .i64 v,.int .u8 rev.toNat,.int .u8 fl.toNat]] w fun e w'=>e= .returned (.bool (ZG fl))∧Below w.heap.size w w':=by
 have hb:=Zcd fl 128 128 rfl;have HN:=Lib.hid (Zc2 fl 128 128 rfl);go_enter Tryz.func149,Tryz.ntmps149
 go_wp2_with fail
 go_ret
 exact⟨Zc5 (by rw [HN.out];rfl),(Below.refl _ w).alloc (Nat.le_refl _) _⟩
theorem ZjE (v:Int)(rev fl:UInt8)(w:World):
 Calls Tryz.prog 75 #[.agg #[.int .i64 v,.int .u8 rev.toNat,.int .u8 fl.toNat]] w fun e w'=>e= .returned (.bool (ZbW v.toNat fl))∧Below w.heap.size w w':=by
 by_cases h4:v=4
 · subst h4;have hb:=Zcd fl 16 16 rfl;have HN:=Lib.hid (Zc2 fl 16 16 rfl);go_enter Tryz.func75,Tryz.ntmps75
   go_wp2_with fail
   go_ret
   exact⟨Zc5 (by rw [HN.out];simp [ZbW]),(Below.refl _ w).alloc (Nat.le_refl _) _⟩
 · have e4:(v==4)=false:=by simpa using h4
   have n4:(v.toNat==4)=false:=by rw [beq_eq_false_iff_ne];omega
   have hg:ZbW v.toNat fl=false:=by unfold ZbW;rw [n4];rfl
   rw [hg];clear hg n4;go_enter Tryz.func75,Tryz.ntmps75
   go_wp2_with fail
   go_ret
   exact⟨rfl,(Below.refl _ w).alloc (Nat.le_refl _) _⟩
theorem ZjF (v:Int)(rev fl:UInt8)(w:World):
 Calls Tryz.prog 101 #[.agg #[.int .i64 v,.int .u8 rev.toNat,.int .u8 fl.toNat]] w fun e w'=>e= .returned (.bool (ZcH v.toNat fl))∧Below w.heap.size w w':=by
 by_cases h4:v=4
 · subst h4;go_enter Tryz.func101,Tryz.ntmps101
   go_wp2_with fail
   go_ret
   exact⟨rfl,(Below.refl _ w).alloc (Nat.le_refl _) _⟩
 · have e4:(v==4)=false:=by simpa using h4
   have e5:(v !=4)=true:=by simpa using h4
   have n4:(v.toNat !=4)=true:=by rw [bne_iff_ne];omega
   have hg:ZcH v.toNat fl=ZG fl:=by unfold ZcH;rw [n4];rfl
   have hs:=fun w=>Zhc v rev fl w;rw [hg];clear hg n4;go_enter Tryz.func101,Tryz.ntmps101
   go_wp2_with (go_at_call 149;refine(hs _).mono ?_;rintro e w1 ⟨rfl,hb1⟩)
   go_ret
   exact⟨rfl,Ze hb1⟩
theorem Zo5 (K:Nat)(s:InS)(z:Int)(hz:z<0)(w:World)(h:InAt w K s):
 Calls Tryz.prog 57 #[.pointer (some ⟨K,0,none⟩),.int .i64 z] w (Zf K w (.string (B [])) (if s.e≠0 then s else s.short)):=by
 generalize hP:Zf K w (.string (B [])) (if s.e≠0 then s else s.short)=P at*;have H:=Lib.hid h;by_cases h0:s.e=0
 · have hr:=fun w h=>Zde K s w h h0;have hs:(if s.e≠0 then s else s.short)=s.short:=by rw [if_neg (by omega)]
   have Hs:=Lib.hid hs;have hsh:=fun w h=>Ze1 K s w h;unfold Zf at hsh;obtain⟨c0,c1,c2,c3,c4⟩:=h.get;have hlt:=h.lt;have hd:decide (z<0)=true:=by simpa using hz
   clear hs h h0 c2 c3 c4;go_enter Tryz.func57,Tryz.ntmps57
   go_wp2_with (go_at_call 114;refine(hr _ H.out).mono ?_;rintro e w1 ⟨rfl,hb1⟩;obtain⟨hc,hf⟩:=Zb2 hb1)
   go_quiet (fail)
   go_wp2_with (go_at_call 116;refine(hsh _ ((H.out.below hb1).drewN _)).mono ?_;rintro e w2 ⟨rfl,h2,hb2⟩)
   show P (.returned (.string ⟨#[]⟩)) _
   rw [←hP,Hs.out];exact⟨rfl,h2,(But.of (below_drewN hb1 _)).trans (hb2.mono hb1.size)⟩
 · have hr:=fun w h=>Zdd K s w h h0;have hs:(if s.e≠0 then s else s.short)=s:=by rw [if_pos h0]
   have Hs:=Lib.hid hs;clear hs h h0;go_enter Tryz.func57,Tryz.ntmps57
   go_wp2_with (go_at_call 114;refine(hr _ H.out).mono ?_;rintro e w1 ⟨rfl,hb1⟩)
   show P (.returned (.string ⟨#[]⟩)) _
   rw [←hP,Hs.out];exact⟨rfl,H.out.below hb1,.of hb1⟩
def ZfR (K:Nat)(w:World)(s:InS)(e:Ending)(w':World):Prop:=e= .returned (.tuple #[])∧InAt w' K s∧But K w.heap.size w w'
theorem ZoU (K:Nat)(s:InS)(v:Int)(rev fl:UInt8)(w:World)(h:InAt w K s):
 Calls Tryz.prog 103 #[.agg #[.int .i64 v,.int .u8 rev.toNat,.int .u8 fl.toNat],.pointer (some ⟨K,0,none⟩)] w (ZfR K w (ZcF v.toNat fl s)):=by
 obtain⟨R,hR⟩:∃R,R=ZcF v.toNat fl s:=⟨_,rfl⟩
 rw [←hR];generalize hP:ZfR K w R=P at*;have hb:=Zcd fl 64 64 rfl;have H:=Lib.hid h;have hKl:=h.lt;by_cases h0:fl&&&64=0
 · have hv:((((fl.toNat&&&64:Nat):Int))==0)=true:=by
    have:=congrArg UInt8.toNat h0;rw [UInt8.toNat_and] at this;rw [beq_iff_eq];exact_mod_cast this
   have hs:R=s:=by rw [hR];unfold ZcF;rw [if_pos h0]
   have Hs:=Lib.hid hs;clear hs hR h h0;go_enter Tryz.func103,Tryz.ntmps103
   go_wp2_with fail
   go_end0
   rw [←hP,Hs.out];exact⟨rfl,H.out.alloc _,(But.refl _ _ _).alloc (Nat.le_refl _) _⟩
 · have hv:((((fl.toNat&&&64:Nat):Int))==0)=false:=by
    rw [beq_eq_false_iff_ne];intro e;apply h0
    apply UInt8.toNat_inj.1
    rw [UInt8.toNat_and];exact_mod_cast e
   unfold ZcF at hR;rw [if_neg h0] at hR;by_cases h3:v=3
   · subst h3;have hs:R=((s.big 4).2.take (s.big 4).1).2:=hR;have hbg:=fun w h=>ZcN K s 4 (by omega) w h;have hlt:=Zcs s 4 (by omega);have hlt2:(256:Nat)^4=4294967296:=by decide
     rw [hlt2] at hlt;have htk:=fun w h=>ZcP K (s.big 4).2 (s.big 4).1 (by omega) (by omega) w h;rw [Int.toNat_natCast,←hs] at htk;unfold Zf at hbg htk;clear hs hR h h0 hlt2;generalize (s.big 4).1=N at*;generalize (s.big 4).2=s2 at*;go_enter Tryz.func103,Tryz.ntmps103
     go_wp2_with (first
      |(go_at_call 56;refine(hbg _ (H.out.alloc _)).mono ?_;rintro e w1 ⟨rfl,h1,hb1⟩;have H1:=Lib.hid h1;have B1:=Lib.hid (Zhq hb1);clear h1 hb1)
      |(go_at_call 57;refine(htk _ H1.out).mono ?_;rintro e w2 ⟨rfl,h2,hb2⟩))
     go_end0
     rw [←hP];exact⟨rfl,h2,B1.out.trans (hb2.mono B1.out.size)⟩
   · have e3:(v==3)=false:=by simpa using h3
     rw [if_neg (by omega)] at hR;have hs:R=(if s.safe.1<4 then(if(if s.safe.1<6 then s.safe.2.fail 1 s.at_ else s.safe.2).e≠0 then(if s.safe.1<6 then s.safe.2.fail 1 s.at_ else s.safe.2) else(if s.safe.1<6 then s.safe.2.fail 1 s.at_ else s.safe.2).short) else((if s.safe.1<6 then s.safe.2.fail 1 s.at_ else s.safe.2).take (s.safe.1 - 4)).2):=hR;have hat:=fun w h=>Zb0 K s w h;have hsf:=fun w h=>ZfP K s w h;have hlt:=ZgC s;unfold Zf at hsf;clear hR h h0;generalize s.safe.1=N at*;generalize s.safe.2=s2 at*;generalize s.at_=at0 at*;obtain⟨s3,hs3⟩:∃s3,s3=if N<6 then s2.fail 1 at0 else s2:=⟨_,rfl⟩
     rw [←hs3] at hs;have Hs:=Lib.hid hs;have Hs3:=Lib.hid hs3;clear hs hs3;go_enter Tryz.func103,Tryz.ntmps103
     go_upto_if 23 with(first
      |(go_at_call 55;refine(hat _ (H.out.alloc _)).mono ?_;rintro e w1 ⟨rfl,rfl⟩)
      |(go_at_call 100;refine(hsf _ (H.out.alloc _)).mono ?_;rintro e w2 ⟨rfl,h2,hb2⟩;have H2:=Lib.hid h2;have B2:=Lib.hid (Zhq hb2);clear h2 hb2))
     go_cut [] (fun wx=>InAt wx K s3∧But K w.heap.size w wx)
     case first=>
      by_cases h6:N<6
      · have hf:=fun w h=>Za5 K s2 1 (at0:Int) (by decide) (by omega) w h;have hq:=Hs3.out;rw [if_pos h6] at hq;rw [Int.toNat_natCast,show(1:Int).toNat=1 from rfl,←hq] at hf;unfold Zf at hf;clear hq;go_wp2_with (go_at_call 110;refine(hf _ H2.out).mono ?_;rintro e w3 ⟨rfl,h3,hb3⟩)
        go_meet
        exact⟨h3,B2.out.trans (hb3.mono B2.out.size)⟩
      · have hq:=Hs3.out;rw [if_neg h6] at hq;have Hq:=Lib.hid hq;clear hq;go_wp2_with fail
        go_meet
        rw [Hq.out];exact⟨H2.out,B2.out⟩
     case rest=>
      have HC:=Lib.hid hcut;clear hcut;by_cases h4:N<4
      · have htk:=fun w h=>Zo5 K s3 ((N:Int) - 4) (by omega) w h;have hq:=Hs.out;rw [if_pos h4] at hq;rw [←hq] at htk;unfold Zf at htk;clear hq;go_wp2_with (go_at_call 57;refine(htk _ HC.out.1).mono ?_;rintro e w3 ⟨rfl,h3,hb3⟩)
        go_end0
        rw [←hP];exact⟨rfl,h3,HC.out.2.trans (hb3.mono HC.out.2.size)⟩
      · have htk:=fun w h=>ZcP K s3 ((N:Int) - 4) (by omega) (by omega) w h;have hq:=Hs.out;rw [if_neg h4] at hq;rw [show((N:Int) - 4).toNat=N - 4 by omega,←hq] at htk;unfold Zf at htk;clear hq;go_wp2_with (go_at_call 57;refine(htk _ HC.out.1).mono ?_;rintro e w3 ⟨rfl,h3,hb3⟩)
        go_end0
        rw [←hP];exact⟨rfl,h3,HC.out.2.trans (hb3.mono HC.out.2.size)⟩
end Go.Proofs.YtecandjkbbpooaaGreatDoor
