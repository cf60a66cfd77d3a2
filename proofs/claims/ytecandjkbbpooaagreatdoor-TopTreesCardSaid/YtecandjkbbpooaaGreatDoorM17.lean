/- Lemmas for a statement on the tops; conditions: as each says. -/
import Derived.Test.YtecandjkbbpooaaGreatDoorM16
set_option linter.unusedVariables false
set_option linter.unusedSimpArgs false
set_option maxRecDepth 100000
set_option maxHeartbeats 4000000
namespace Go.Proofs.YtecandjkbbpooaaGreatDoor
open Go Go.RowKit
def Ze2 (w:World)(r:Except (Nat×Nat) (Option Tg×List UInt8))(e:Ending)(w':World):Prop:=Below w.heap.size w w'∧match r with
 | .error x=>e= .returned (.tuple #[.agg #[.int .i64 0,.int .u8 0,.int .u8 0,.slice none 0 0],.string ⟨#[]⟩,.agg #[.int .i64 x.1,.int .i64 x.2]])∧x.1≠0
 | .ok (none,rest)=>e= .returned (.tuple #[.agg #[.int .i64 0,.int .u8 0,.int .u8 0,.slice none 0 0],.string (B rest),.agg #[.int .i64 0,.int .i64 0]])
 | .ok (some t,rest)=>∃vl,e= .returned (.tuple #[.agg #[.int .i64 t.v,.int .u8 t.rev.toNat,.int .u8 t.fl.toNat,vl],.string (B rest),.agg #[.int .i64 0,.int .i64 0]])∧Zi frV w.heap.size w' vl t.fs
namespace InS
theorem take_ok (s:InS)(k:Nat)(h:(s.take k).2.e=0):s.e=0∧(s.take k).2.n=s.n+k∧(s.take k).2.t=s.t:=by
 unfold take at h⊢;split at h
 · contradiction
 · rename_i h0
   have h0':s.e=0:=by simpa using h0
   split at h
   · simp only [short,fail] at h;rw [if_pos ⟨h0',by decide⟩] at h;exact absurd h Nat.one_ne_zero
   · rename_i h1
     rw [if_neg h0,if_neg h1];exact⟨h0',rfl,rfl⟩
theorem big_ok (s:InS)(k:Nat)(hk:k≤8)(h:(s.big k).2.e=0):s.e=0∧(s.big k).2.n=s.n+k∧(s.big k).2.t=s.t:=by
 unfold big at h⊢;simp only [Nat.min_eq_left hk] at h⊢;exact take_ok s k h
theorem fail_ok (s:InS)(e a:Nat)(he:e≠0):(s.fail e a).e≠0:=by
 unfold fail;split
 · exact he
 · rename_i h;exact fun h0=>h ⟨h0,he⟩
theorem safe_ok (s:InS)(h:s.safe.2.e=0):s.e=0∧s.safe.2.n=s.n+4∧s.safe.2.t=s.t:=by
 have hs:s.safe=match InS.high (s.take 4).1 with
  |some i=>(0,(s.take 4).2.fail 1 ((s.take 4).2.place ((s.take 4).2.n - (s.take 4).1.length+i)))
  |none=>(Za1 (s.take 4).1,(s.take 4).2):=rfl
 rw [hs] at h⊢;clear hs;cases hh:InS.high (s.take 4).1 with
 |some i=>rw [hh] at h;exact absurd h (fail_ok _ _ _ (by decide))
 |none=>rw [hh] at h;exact take_ok s 4 h
theorem want_ok (s:InS)(l:List UInt8)(h:(s.want l).2.e=0):s.e=0∧(s.want l).2.n=s.n+l.length∧(s.want l).2.t=s.t:=by
 unfold want at h⊢;by_cases h0:s.e≠0
 · rw [if_pos h0] at h;exact absurd h h0
 · rw [if_neg h0] at h⊢;cases hd:differ l (s.t.drop s.n) with
   |some i=>rw [hd] at h;exact absurd h (fail_ok _ _ _ (by decide))
   |none=>
    rw [hd] at h;simp only at h⊢;split at h
    · exact absurd h (fail_ok _ _ _ (by decide))
    · rename_i h1
      rw [if_neg h1];exact⟨by simpa using h0,rfl,rfl⟩
end InS
theorem Zrc (s:InS)(h:(Zci s).2.e=0):s.e=0∧(Zci s).2.n=s.n+6∧(Zci s).2.t=s.t:=by
 unfold Zci at h⊢;obtain⟨q,hq⟩:∃q,q=(s.want ZB).2:=⟨_,rfl⟩
 obtain⟨a,ha⟩:∃a,a=q.big 1:=⟨_,rfl⟩
 obtain⟨b,hb⟩:∃b,b=a.2.big 1:=⟨_,rfl⟩
 obtain⟨c,hc⟩:∃c,c=b.2.big 1:=⟨_,rfl⟩
 simp only [←hq,←ha,←hb,←hc] at h⊢;by_cases hE:c.2.e≠0
 · rw [if_pos hE] at h;exact absurd h hE
 · rw [if_neg hE] at h⊢;have key:∀(p:Prop) [Decidable p] (x:InS) (e k:Nat),e≠0→(if p then x.fail e k else x).e=0→¬p∧x.e=0:=by
    intro p _ x e k he hx;by_cases hp:p
    · rw [if_pos hp] at hx;exact absurd hx (InS.fail_ok _ _ _ he)
    · rw [if_neg hp] at hx;exact⟨hp,hx⟩
   obtain⟨n4,h4⟩:=key _ _ _ _ (by decide) h;obtain⟨n3,h3⟩:=key _ _ _ _ (by decide) h4;obtain⟨n2,h2⟩:=key _ _ _ _ (by decide) h3;obtain⟨n1,h1⟩:=key _ _ _ _ (by decide) h2;rw [if_neg n4,if_neg n3,if_neg n2,if_neg n1];have k1:=InS.big_ok b.2 1 (by omega) (by rw [←hc];exact h1);have k2:=InS.big_ok a.2 1 (by omega) (by rw [←hb];exact k1.1);have k3:=InS.big_ok q 1 (by omega) (by rw [←ha];exact k2.1);have k4:=InS.want_ok s ZB (by rw [←hq];exact k3.1);rw [←hc] at k1;rw [←hb] at k2;rw [←ha] at k3;rw [←hq] at k4;have:ZB.length=3:=rfl;exact⟨k4.1,by show c.2.n=_;omega,by show c.2.t=_;rw [k1.2.2,k2.2.2,k3.2.2,k4.2.2]⟩
theorem Zfn {P:Program} {fn:Func} {p t q:Tmp} {ty ty2:TypeId} (h:fn.results=#[.cell p ty,.tmp t,.cell q ty2])(tmps:Array Value)(w:World)(g k:Nat)(T T2:TypeId)(cs cs2:Array Value)(fr fr2:Nat×Nat)(d d2:TypeDesc)(u:Value)
 (hp:tmps.getD p undef= .pointer (some ⟨g,0,none⟩)) (ht:tmps.getD t undef=u) (hq:tmps.getD q undef= .pointer (some ⟨k,0,none⟩)) (hg:w.heap[g]? =some (.cells cs T fr)) (hk:w.heap[k]? =some (.cells cs2 T2 fr2))
 (hu:P.underlying ty=some d) (hd:(match d with| .struct _| .array _ _=>true|_=>false)=true) (hi:(P.info? ty).map (·.size)=some cs.size)
 (hu2:P.underlying ty2=some d2) (hd2:(match d2 with| .struct _| .array _ _=>true|_=>false)=true) (hi2:(P.info? ty2).map (·.size)=some cs2.size):
 (results fn tmps).run P w= .ok (.tuple #[.agg cs,u,.agg cs2]) w:=by
 have hp':tmps[p]?.getD undef= .pointer (some ⟨g,0,none⟩):=by simpa using hp
 have ht':tmps[t]?.getD undef=u:=by simpa using ht
 have hq':tmps[q]?.getD undef= .pointer (some ⟨k,0,none⟩):=by simpa using hq
 simp [results,h,hp',ht',hq',asAddr,run_loadVar_row w g T ty cs fr d hg hu hd hi,run_loadVar_row w k T2 ty2 cs2 fr2 d2 hk hu2 hd2 hi2]
theorem ZaT {P:Program} {fn:Func} {t q:Tmp} {ty2:TypeId} (h:fn.results=#[.tmp t,.cell q ty2])(tmps:Array Value)(w:World)(k:Nat)(T2:TypeId)(cs2:Array Value)(fr2:Nat×Nat)(d2:TypeDesc)(u:Value)
 (ht:tmps.getD t undef=u) (hq:tmps.getD q undef= .pointer (some ⟨k,0,none⟩)) (hk:w.heap[k]? =some (.cells cs2 T2 fr2))
 (hu2:P.underlying ty2=some d2) (hd2:(match d2 with| .struct _| .array _ _=>true|_=>false)=true) (hi2:(P.info? ty2).map (·.size)=some cs2.size):
 (results fn tmps).run P w= .ok (.tuple #[u,.agg cs2]) w:=by
 have ht':tmps[t]?.getD undef=u:=by simpa using ht
 have hq':tmps[q]?.getD undef= .pointer (some ⟨k,0,none⟩):=by simpa using hq
 simp [results,h,ht',hq',asAddr,run_loadVar_row w k T2 ty2 cs2 fr2 d2 hk hu2 hd2 hi2]
theorem Zo0 (file:List UInt8)(hl:file.length≤900000000)(h3:file.take 3≠ZB)(w:World):
 Calls Tryz.prog 41 #[.string (B file)] w (Ze2 w (Zbf file)):=by
 have hR:Zbf file= .ok (none,file):=by unfold Zbf;rw [if_pos h3]
 rw [hR];generalize hP:Ze2 w (.ok (none,file))=P at*;have hsz:=Zl file;have fin:∀(tm:Array Value),tm.getD 2 undef= .pointer (some ⟨w.heap.size,0,none⟩)→tm.getD 3 undef= .string (B file)→tm.getD 4 undef= .pointer (some ⟨w.heap.size+1,0,none⟩)→
  bodyPost Tryz.prog Tryz.f41 P .ret {tmps:=tm,defers:=[]} ((w.alloc (.cells #[.int .i64 0,.int .u8 0,.int .u8 0,.slice none 0 0] 84)).alloc (.cells #[.int .i64 0,.int .i64 0] 62)):=by
  intro tm t2 t3 t4;have b1:=(Bx.new w #[.int .i64 0,.int .u8 0,.int .u8 0,.slice none 0 0] 84).alloc (.cells #[.int .i64 0,.int .i64 0] 62);have b2:=Bx.new (w.alloc (.cells #[.int .i64 0,.int .u8 0,.int .u8 0,.slice none 0 0] 84)) #[.int .i64 0,.int .i64 0] 62;rw [World.size_alloc] at b2;refine bodyPost_ret (Zfn rfl _ _ w.heap.size (w.heap.size+1) _ _ _ _ _ _ _ _ _ t2 t3 t4 b1 b2 Tryz.underlying84 rfl (by kernel_rfl) Tryz.underlying62 rfl (by kernel_rfl)) rfl ?_;rw [←hP];exact⟨((Below.refl _ _).alloc (Nat.le_refl _) _).alloc (by simp) _,rfl⟩
 have Fin:=Lib.hid fin;clear fin hR;by_cases hlen:file.length<3
 · have hlen':(file.length:Int)<3:=by omega
   clear h3 hlen;go_enter Tryz.func41,Tryz.ntmps41
   go_wp2_with fail
   exact Fin.out _ rfl rfl rfl
 · have he:(B file).extract 0 3=B (file.take 3):=by rw [ZfC];rfl
   have hq:((B (file.take 3)).toList==[73,68,51])=false:=by rw [seqB,beq_eq_false_iff_ne];exact h3
   have hq2:((B (file.take 3)).toList !=[73,68,51])=true:=by rw [bne,hq];rfl
   have hq3:¬(B (file.take 3)).toList=[73,68,51]:=by rw [ZhY];exact h3
   have hlen':¬(file.length:Int)<3:=by omega
   clear h3 hlen;go_enter Tryz.func41,Tryz.ntmps41
   go_wp2_with fail
   exact Fin.out _ rfl rfl rfl
def zTag:Array Value:=#[.int .i64 0,.int .u8 0,.int .u8 0,.slice none 0 0]
structure TSt (w0 wx:World)(K H:Nat)(v:Int)(rev fl:UInt8)(s:InS):Prop where
 r2:Bx wx w0.heap.size zTag 84
 r4:Bx wx (w0.heap.size+1) #[.int .i64 0,.int .i64 0] 62
 hd:Bx wx H (three v rev fl) 23
 inn:InAt wx K s
 low:Below w0.heap.size w0 wx
 hK:w0.heap.size+1<K
 hH:w0.heap.size+1<H
 hKH:K<H
section
variable {w0 w w':World} {K H:Nat} {v:Int} {rev fl:UInt8} {s s':InS}
theorem TSt.below (h:TSt w0 w K H v rev fl s)(hb:Below w.heap.size w w'):TSt w0 w' K H v rev fl s:=
 ⟨h.r2.below hb,h.r4.below hb,h.hd.below hb,h.inn.below hb,h.low.trans (hb.mono h.low.size),h.hK,h.hH,h.hKH⟩
theorem TSt.butK (h:TSt w0 w K H v rev fl s)(hi:InAt w' K s')(hb:But K w.heap.size w w'):TSt w0 w' K H v rev fl s':=
 ⟨h.r2.but hb (by have:=h.hK;omega),h.r4.but hb (by have:=h.hK;omega),h.hd.but hb (by have:=h.hKH;omega),hi,h.low.trans ((hb.mono h.low.size).below (by have:=h.hK;omega)),h.hK,h.hH,h.hKH⟩
theorem TSt.butO {C:Nat} (h:TSt w0 w K H v rev fl s)(hb:But C w.heap.size w w')(hC:H<C):TSt w0 w' K H v rev fl s:=
 ⟨h.r2.but hb (by have:=h.hH;omega),h.r4.but hb (by have:=h.hH;omega),h.hd.but hb (by omega),h.inn.but hb (by have:=h.hKH;omega),h.low.trans ((hb.mono h.low.size).below (by have:=h.hH;omega)),h.hK,h.hH,h.hKH⟩
theorem TSt.alloc (h:TSt w0 w K H v rev fl s)(o:Obj):TSt w0 (w.alloc o) K H v rev fl s:=h.below ((Below.refl _ _).alloc (Nat.le_refl _) _)
theorem TSt.drew (h:TSt w0 w K H v rev fl s):TSt w0 w.drew K H v rev fl s:=h.below (below_drewN (Below.refl _ _) 1)
theorem TSt.cells (h:TSt w0 w K H v rev fl s):(w.cell? ⟨H,0,none⟩=some (.int .i64 v)∧w.cell? ⟨H,1,none⟩=some (.int .u8 rev.toNat)∧w.cell? ⟨H,2,none⟩=some (.int .u8 fl.toNat))∧
 (w.cell? ⟨w0.heap.size,0,none⟩=some (.int .i64 0)∧w.cell? ⟨w0.heap.size,1,none⟩=some (.int .u8 0)∧w.cell? ⟨w0.heap.size,2,none⟩=some (.int .u8 0)∧w.cell? ⟨w0.heap.size,3,none⟩=some (.slice none 0 0))∧
 (w.cell? ⟨w0.heap.size+1,0,none⟩=some (.int .i64 0)∧w.cell? ⟨w0.heap.size+1,1,none⟩=some (.int .i64 0))∧
 ((∀j,w.frozen? ⟨w0.heap.size,j,none⟩=false)∧(∀j,w.frozen? ⟨w0.heap.size+1,j,none⟩=false)∧(∀j,w.frozen? ⟨H,j,none⟩=false))∧w0.heap.size+1<w.heap.size∧H<w.heap.size:=
 ⟨⟨h.hd.cell 0,h.hd.cell 1,h.hd.cell 2⟩,⟨h.r2.cell 0,h.r2.cell 1,h.r2.cell 2,h.r2.cell 3⟩,⟨h.r4.cell 0,h.r4.cell 1⟩,⟨h.r2.free,h.r4.free,h.hd.free⟩,h.r4.lt,h.hd.lt⟩
end
theorem ZpH {w:World} {g:Nat} {T:TypeId} {x0 x1 x2 x3:Value} (h:Bx w g #[x0,x1,x2,x3] T)(a b c d:Value):Bx ((((w.setCell ⟨g,0,none⟩ a).setCell ⟨g,1,none⟩ b).setCell ⟨g,2,none⟩ c).setCell ⟨g,3,none⟩ d) g #[a,b,c,d] T:=by
 have h0:Bx (w.setCell ⟨g,0,none⟩ a) g #[a,x1,x2,x3] T:=h.put 0 a;have h1:Bx _ g #[a,b,x2,x3] T:=h0.put 1 b;have h2:Bx _ g #[a,b,c,x3] T:=h1.put 2 c;exact h2.put 3 d
theorem Bx.drew {w:World} {g:Nat} {cs:Array Value} {T:TypeId} (h:Bx w g cs T):Bx w.drew g cs T:=h
theorem Za8 {B:Nat} {a w:World} (h:Below B a w):Below B a w.drew:=below_drewN h 1
theorem Za9 {w:World} {g:Nat} {T:TypeId} {x0 x1:Value} (h:Bx w g #[x0,x1] T)(a b:Value):Bx ((w.setCell ⟨g,0,none⟩ a).setCell ⟨g,1,none⟩ b) g #[a,b] T:=by
 have h0:Bx (w.setCell ⟨g,0,none⟩ a) g #[a,x1] T:=h.put 0 a;exact h0.put 1 b
theorem TSt.fin {w0 w:World} {K H:Nat} {v:Int} {rev fl:UInt8} {s:InS} (h:TSt w0 w K H v rev fl s)(a b c d x y:Value):
 Bx ((((((w.setCell ⟨w0.heap.size,0,none⟩ a).setCell ⟨w0.heap.size,1,none⟩ b).setCell ⟨w0.heap.size,2,none⟩ c).setCell ⟨w0.heap.size,3,none⟩ d).setCell ⟨w0.heap.size+1,0,none⟩ x).setCell ⟨w0.heap.size+1,1,none⟩ y) w0.heap.size #[a,b,c,d] 84∧
 Bx ((((((w.setCell ⟨w0.heap.size,0,none⟩ a).setCell ⟨w0.heap.size,1,none⟩ b).setCell ⟨w0.heap.size,2,none⟩ c).setCell ⟨w0.heap.size,3,none⟩ d).setCell ⟨w0.heap.size+1,0,none⟩ x).setCell ⟨w0.heap.size+1,1,none⟩ y) (w0.heap.size+1) #[x,y] 62∧
 Below w0.heap.size w0 ((((((w.setCell ⟨w0.heap.size,0,none⟩ a).setCell ⟨w0.heap.size,1,none⟩ b).setCell ⟨w0.heap.size,2,none⟩ c).setCell ⟨w0.heap.size,3,none⟩ d).setCell ⟨w0.heap.size+1,0,none⟩ x).setCell ⟨w0.heap.size+1,1,none⟩ y):=by
 have q:Bx w w0.heap.size #[.int .i64 0,.int .u8 0,.int .u8 0,.slice none 0 0] 84:=h.r2;refine⟨((ZpH q a b c d).set (k:=w0.heap.size+1) (by omega) 0 x).set (k:=w0.heap.size+1) (by omega) 1 y,Za9 ((((h.r4.set (k:=w0.heap.size) (by omega) 0 a).set (k:=w0.heap.size) (by omega) 1 b).set (k:=w0.heap.size) (by omega) 2 c).set (k:=w0.heap.size) (by omega) 3 d) x y,?_⟩;exact(((((h.low.setCell (p:=⟨w0.heap.size,0,none⟩) (Nat.le_refl _) a).setCell (p:=⟨w0.heap.size,1,none⟩) (Nat.le_refl _) b).setCell (p:=⟨w0.heap.size,2,none⟩) (Nat.le_refl _) c).setCell (p:=⟨w0.heap.size,3,none⟩) (Nat.le_refl _) d).setCell (p:=⟨w0.heap.size+1,0,none⟩) (Nat.le_succ _) x).setCell (p:=⟨w0.heap.size+1,1,none⟩) (Nat.le_succ _) y
theorem Zi.set {α:Type} {f:α→List Value} {B:Nat} {w:World} {v:Value} {l:List α} (h:Zi f B w v l){g:Nat} (hg:g<B)(j:Nat)(u:Value):Zi f B (w.setCell ⟨g,j,none⟩ u) v l:=by
 rcases h with h|⟨bk,c,h0,h1,h2,h5,h3,h4⟩
 · exact .inl h
 · exact .inr ⟨bk,c,h0,h1,h2,h5,by simpa using h3,fun i x hx=>by rw [World.cell?_setCell_other _ _ _ _ (fun e=>by injection e with e;omega)];exact h4 i x hx⟩
theorem TSt.setFl {w0 w:World} {K H:Nat} {v:Int} {rev fl:UInt8} {s:InS} (h:TSt w0 w K H v rev fl s)(x:UInt8):TSt w0 (w.setCell ⟨H,2,none⟩ (.int .u8 x.toNat)) K H v rev x s:=
 ⟨h.r2.set (by have:=h.hH;omega) _ _,h.r4.set (by have:=h.hH;omega) _ _,h.hd.put 2 _,h.inn.set (by have:=h.hKH;omega) _ _,h.low.setCell (p:=⟨H,2,none⟩) (by have:=h.hH;simp;omega) _,h.hK,h.hH,h.hKH⟩
theorem keep4 {w:World} {H g:Nat} (hg:H≠g){x y z:Value} (h:w.cell? ⟨H,0,none⟩=some x∧w.cell? ⟨H,1,none⟩=some y∧w.cell? ⟨H,2,none⟩=some z)(a b c d:Value):
 ((((w.setCell ⟨g,0,none⟩ a).setCell ⟨g,1,none⟩ b).setCell ⟨g,2,none⟩ c).setCell ⟨g,3,none⟩ d).cell? ⟨H,0,none⟩=some x∧((((w.setCell ⟨g,0,none⟩ a).setCell ⟨g,1,none⟩ b).setCell ⟨g,2,none⟩ c).setCell ⟨g,3,none⟩ d).cell? ⟨H,1,none⟩=some y∧((((w.setCell ⟨g,0,none⟩ a).setCell ⟨g,1,none⟩ b).setCell ⟨g,2,none⟩ c).setCell ⟨g,3,none⟩ d).cell? ⟨H,2,none⟩=some z:=by
 have q:∀(w:World) (j i:Nat) (u:Value),(w.setCell ⟨g,j,none⟩ u).cell? ⟨H,i,none⟩=w.cell? ⟨H,i,none⟩:=fun w j i u=>World.cell?_setCell_other _ _ _ _ (fun e=>hg (by injection e with e;exact e.symm));simp only [q];exact h
theorem keep2 {w:World} {H g:Nat} (hg:H≠g){x y z:Value} (h:w.cell? ⟨H,0,none⟩=some x∧w.cell? ⟨H,1,none⟩=some y∧w.cell? ⟨H,2,none⟩=some z)(a b:Value):
 ((w.setCell ⟨g,0,none⟩ a).setCell ⟨g,1,none⟩ b).cell? ⟨H,0,none⟩=some x∧((w.setCell ⟨g,0,none⟩ a).setCell ⟨g,1,none⟩ b).cell? ⟨H,1,none⟩=some y∧((w.setCell ⟨g,0,none⟩ a).setCell ⟨g,1,none⟩ b).cell? ⟨H,2,none⟩=some z:=by
 have q:∀(w:World) (j i:Nat) (u:Value),(w.setCell ⟨g,j,none⟩ u).cell? ⟨H,i,none⟩=w.cell? ⟨H,i,none⟩:=fun w j i u=>World.cell?_setCell_other _ _ _ _ (fun e=>hg (by injection e with e;exact e.symm));simp only [q];exact h
theorem ZoE (t:List UInt8)(h1:t.length≤1000000000)(w:World):
 Calls Tryz.prog 50 #[.string (B t)] w fun e w'=>∃K,e= .returned (.pointer (some ⟨K,0,none⟩))∧InAt w' K ⟨t,0,0,0,0⟩∧Below w.heap.size w w'∧w.heap.size≤K∧K<w'.heap.size:=
 (Zjv t h1 w).mono fun _ _ ⟨a,b,c,d⟩=>⟨_,a,b,c,Nat.le_refl _,by omega⟩
theorem Zo1 (file:List UInt8)(hl:file.length≤900000000)(h3:file.take 3=ZB)(w:World):
 Calls Tryz.prog 41 #[.string (B file)] w (Ze2 w (Zbf file)):=by
 have hlen:3≤file.length:=by
  have:=congrArg List.length h3;rw [List.length_take,show ZB.length=3 from rfl] at this;omega
 obtain⟨hh,hhh⟩:∃h,h=Zci ⟨file,0,0,0,0⟩:=⟨_,rfl⟩
 obtain⟨v,hv⟩:∃v:Nat,v=hh.1.1:=⟨_,rfl⟩
 obtain⟨rev,hrev⟩:∃x,x=hh.1.2.1:=⟨_,rfl⟩
 obtain⟨fl,hfl⟩:∃x,x=hh.1.2.2:=⟨_,rfl⟩
 obtain⟨n,hn⟩:∃n,n=hh.2.safe:=⟨_,rfl⟩
 obtain⟨b,hb⟩:∃b,b=n.2.take n.1:=⟨_,rfl⟩
 obtain⟨body,hbody⟩:∃body,body=if ZcH v fl then ZV false b.1 else b.1:=⟨_,rfl⟩
 obtain⟨l,hlf⟩:∃l,l=Zcy v (ZG fl) (ZcF v fl ⟨body,0,10,0,0⟩):=⟨_,rfl⟩
 obtain⟨r,hr⟩:∃r,r=if ZbW v fl then(((b.2.want ZaZ).2).want ((file.take 10).drop 3)).2 else b.2:=⟨_,rfl⟩
 have hR:Zbf file=if b.2.e≠0 then .error (b.2.e,b.2.a) else if l.2.e≠0 then .error (l.2.e,l.2.a) else if r.e≠0 then .error (r.e,r.a) else .ok (some ⟨v,rev,fl&&& ~~~0x40,l.1⟩,r.rest.1):=by
  subst hr hlf hbody hb hn hfl hrev hv hhh;unfold Zbf;rw [if_neg (by simpa using h3)]
 have hb10:b.2.e=0→10≤b.2.n∧b.2.t=file∧b.1.length≤file.length:=by
  intro h0;have k1:=InS.take_ok n.2 n.1 (by rw [←hb];exact h0);have k2:=InS.safe_ok hh.2 (by rw [←hn];exact k1.1);have k3:=Zrc ⟨file,0,0,0,0⟩ (by rw [←hhh];exact k2.1);rw [←hb] at k1;rw [←hn] at k2;rw [←hhh] at k3;have ht:n.2.t=file:=by rw [k2.2.2,k3.2.2]
  refine⟨by have:=k3.2.1;simp only at this;omega,by rw [k1.2.2,ht],?_⟩;rw [←ht,hb];unfold InS.take;split
  · simp
  · split
    · simp
    · simp;omega
 generalize hP:Ze2 w (Zbf file)=P at*;have hsz:=Zl file;have he:(B file).extract 0 3=B [73,68,51]:=by rw [ZfC];congr 1
 have hq:((B [73,68,51]).toList==[73,68,51])=true:=by rw [seqB];rfl
 have hq2:((B [73,68,51]).toList !=[73,68,51])=false:=by rw [bne,hq];rfl
 have hq3:(B [73,68,51]).toList=[73,68,51]:=ZhY _;have hlen':¬(file.length:Int)<3:=by omega
 have hrd:=fun w=>ZoE file (by omega) w;have hhd:∀K w,InAt w K ⟨file,0,0,0,0⟩→Calls Tryz.prog 99 #[.pointer (some ⟨K,0,none⟩)] w fun e w'=>e= .returned (.agg #[.int .i64 v,.int .u8 rev.toNat,.int .u8 fl.toNat])∧InAt w' K hh.2∧But K w.heap.size w w':=by
  intro K w h;have:=ZnX K _ w h;rw [←hhh] at this;rw [hv,hrev,hfl];exact this
 have hsf:=fun K w h=>ZfP K hh.2 w h;rw [←hn] at hsf;have hnl:=ZgC hh.2;rw [←hn] at hnl;have htk:=fun K w h=>ZcP K n.2 n.1 (by omega) (by omega) w h;rw [Int.toNat_natCast,←hb] at htk;unfold Zf at hsf htk;have hfa:=fun K w h=>Zcp K b.2 w h;have Hbody:=Lib.hid hbody;have Hlf:=Lib.hid hlf;have Hr:=Lib.hid hr;have HR:=Lib.hid hR;have Hb10:=Lib.hid hb10;clear hhh hv hrev hfl hn hb hbody hlf hr hR hb10 h3 hlen;generalize n.1=nn at*;by_cases hE:b.2.e=0
 · have hRR:=HR.out;rw [if_neg (by simpa using hE)] at hRR;obtain⟨hn10,htf,hbl⟩:=Hb10.out hE;have HRR1:=Lib.hid hRR;have Htf:=Lib.hid htf;have hbd:=fun w=>ZT (b.2.e:Int) b.2.a (by omega) w;have hwh:=fun w=>ZjF (v:Int) rev fl w;rw [Int.toNat_natCast] at hwh;clear hRR hE htf;go_enter Tryz.func41,Tryz.ntmps41
   go_upto_if 39 with(first
    |(go_at_call 50;refine(hrd _).mono ?_;rintro e w1 ⟨K,rfl,h1,hb1,hK1,hK2⟩;have H1:=Lib.hid h1;have L1:=Lib.hid (Zeh hb1);simp only [World.size_alloc] at hK1;have RA:=Lib.hid (Bx.below ((Bx.new w zTag 84).alloc _) hb1);have RB:Hid (Bx w1 (w.heap.size+1) #[.int .i64 0,.int .i64 0] 62):=Lib.hid (Bx.below (by have:=Bx.new (w.alloc (.cells zTag 84)) #[.int .i64 0,.int .i64 0] 62;rw [World.size_alloc] at this;exact this) hb1);clear h1 hb1)
    |(go_at_call 99;refine(hhd _ _ H1.out).mono ?_;rintro e w2 ⟨rfl,h2,hb2⟩;have ST:Hid (TSt w (w2.alloc (.cells (three v rev fl) 23)) K w2.heap.size v rev fl hh.2):=Lib.hid ⟨(RA.out.but hb2 (by omega)).alloc _,(RB.out.but hb2 (by omega)).alloc _,Bx.new w2 _ _,h2.alloc _,(L1.out.trans ((hb2.mono L1.out.size).below (by omega))).alloc (by have:=L1.out.size;have:=hb2.size;omega) _,by omega,by have:=hb2.size;omega,by have:=hb2.size;omega⟩;clear h2 hb2;obtain⟨⟨d0,d1,d2⟩,⟨r0,r1,r2,r3⟩,⟨q0,q1⟩,⟨f0,f1,f2⟩,l1,l2⟩:=ST.out.cells)
    |(go_at_call 100;refine(hsf _ _ ST.out.inn).mono ?_;rintro e w3 ⟨rfl,h3,hb3⟩;have ST2:=Lib.hid (ST.out.butK h3 hb3);clear h3 hb3)
    |(go_at_call 57;refine(htk _ _ ST2.out.inn).mono ?_;rintro e w4 ⟨rfl,h4,hb4⟩;have ST3:=Lib.hid (ST2.out.butK h4 hb4);clear h4 hb4)
    |(go_at_call 53;refine(hfa _ _ ST3.out.inn).mono ?_;rintro e w5 ⟨rfl,hb5⟩;have ST4:=Lib.hid (ST3.out.below hb5);clear hb5)
    |(go_at_call 7;refine(hbd _).mono ?_;rintro e w6 ⟨rfl,hb6⟩;have ST5:=Lib.hid ((ST4.out.alloc _).below hb6);clear hb6 d0 d1 d2 r0 r1 r2 r3 q0 q1 f0 f1 f2 l1 l2;obtain⟨⟨d0,d1,d2⟩,⟨r0,r1,r2,r3⟩,⟨q0,q1⟩,⟨f0,f1,f2⟩,l1,l2⟩:=ST5.out.cells)
    |(go_at_call 101;refine(hwh _).mono ?_;rintro e w7 ⟨rfl,hb7⟩;have ST6:=Lib.hid (ST5.out.below hb7);clear hb7 d0 d1 d2 r0 r1 r2 r3 q0 q1 f0 f1 f2 l1 l2;obtain⟨⟨d0,d1,d2⟩,⟨r0,r1,r2,r3⟩,⟨q0,q1⟩,⟨f0,f1,f2⟩,l1,l2⟩:=ST6.out.cells))
   have hbody2:body.length≤900000000:=by
    rw [Hbody.out];split
    · have:=Zf1 false b.1;omega
    · omega
   go_cut [7] (fun s7 wx=>s7= .string (B body)∧TSt w wx K w2.heap.size v rev fl b.2)
   case first=>
    have hdr:=fun w=>Zi3 b.1 (by omega) w;cases hW:ZcH v fl with
    |true=>
     have hq9:=Hbody.out;rw [hW,if_pos rfl] at hq9;rw [←hq9] at hdr;clear hq9;go_wp2_with (go_at_call 102;refine(hdr _).mono ?_;rintro e w8 ⟨rfl,hb8⟩)
     go_meet
     exact⟨rfl,ST6.out.below hb8⟩
    |false=>
     have hq9:=Hbody.out;rw [hW,if_neg (by decide)] at hq9;have Hq9:=Lib.hid hq9;clear hq9;go_wp2_with fail
     go_meet
     exact⟨by rw [Hq9.out],ST6.out⟩
   obtain⟨rfl,hcut⟩:=hcut;have ST7:=Lib.hid hcut;have hKH:=ST7.out.hKH;have hHR:=ST7.out.hH;clear hcut d0 d1 d2 r0 r1 r2 r3 q0 q1 f0 f1 f2 l1 l2;obtain⟨⟨d0,d1,d2⟩,⟨r0,r1,r2,r3⟩,⟨q0,q1⟩,⟨f0,f1,f2⟩,l1,l2⟩:=ST7.out.cells;have hin:=fun w=>Zje body 10 (by decide) (by omega) w;rw [show(10:Int).toNat=10 from rfl] at hin;have hsk:∀K2 w,InAt w K2 ⟨body,0,10,0,0⟩→Calls Tryz.prog 103 #[.agg #[.int .i64 v,.int .u8 rev.toNat,.int .u8 fl.toNat],.pointer (some ⟨K2,0,none⟩)] w (ZfR K2 w (ZcF v fl ⟨body,0,10,0,0⟩)):=by
    intro K2 w h;have:=ZoU K2 _ (v:Int) rev fl w h
    rwa [Int.toNat_natCast] at this
   have hfs:∀K2 w,InAt w K2 (ZcF v fl ⟨body,0,10,0,0⟩)→Calls Tryz.prog 104 #[.agg #[.int .i64 v,.int .u8 rev.toNat,.int .u8 fl.toNat],.pointer (some ⟨K2,0,none⟩)] w (ZfJ K2 w l):=by
    intro K2 w h;have:=ZnV K2 _ (v:Int) rev fl w h;rw [Int.toNat_natCast,←Hlf.out] at this;exact this
   unfold ZfR at hsk;unfold ZfJ at hfs;have hfl2:=fun K2 w h=>Zcp K2 l.2 w h;generalize ZcF v fl ⟨body,0,10,0,0⟩=sk at*;by_cases hE2:l.2.e=0
   · have hRR:=HRR1.out;rw [if_neg (by simpa using hE2)] at hRR;have HRR2:=Lib.hid hRR;have hbd2:=fun w=>ZT (l.2.e:Int) l.2.a (by omega) w;have hft:=fun w=>ZjE (v:Int) rev fl w;rw [Int.toNat_natCast] at hft;clear hRR hE2
     go_upto_if 57 with(first
      |(go_at_call 59;refine(hin _).mono ?_;rintro e w8 ⟨K2,rfl,hi8,hb8,hk8,hk9⟩;have STa:=Lib.hid (ST7.out.below hb8);have I8:=Lib.hid hi8;have hk10:w2.heap.size<K2:=(by omega);clear hi8 hb8 d0 d1 d2 r0 r1 r2 r3 q0 q1 f0 f1 f2 l1 l2;obtain⟨⟨d0,d1,d2⟩,⟨r0,r1,r2,r3⟩,⟨q0,q1⟩,⟨f0,f1,f2⟩,l1,l2⟩:=STa.out.cells)
      |(go_at_call 103;refine(hsk _ _ I8.out).mono ?_;rintro e w9 ⟨rfl,hi9,hb9⟩;have STb:=Lib.hid (STa.out.butO hb9 (by omega));have I9:=Lib.hid hi9;have hz9:=hb9.size;clear hi9 hb9 d0 d1 d2 r0 r1 r2 r3 q0 q1 f0 f1 f2 l1 l2;obtain⟨⟨d0,d1,d2⟩,⟨r0,r1,r2,r3⟩,⟨q0,q1⟩,⟨f0,f1,f2⟩,l1,l2⟩:=STb.out.cells)
      |(go_at_call 104;refine(hfs _ _ I9.out).mono ?_;rintro e w10 ⟨vl,rfl,hrw,hi10,hb10⟩;obtain⟨A9,c9,hvl9,hc9⟩:=hrw.len;subst hvl9;have STb2:=Lib.hid (STb.out.butO hb10 (by omega));have I10:=Lib.hid hi10;have RWb:=Lib.hid hrw;clear hi10 hb10 hrw d0 d1 d2 r0 r1 r2 r3 q0 q1 f0 f1 f2 l1 l2)
      |(go_at_call 53;refine(hfl2 _ _ I10.out).mono ?_;rintro e w11 ⟨rfl,hb11⟩;have STc:=Lib.hid (STb2.out.below hb11);have RWc:=Lib.hid (RWb.out.below hb11);clear hb11)
      |(go_at_call 7;refine(hbd2 _).mono ?_;rintro e w12 ⟨rfl,hb12⟩;have STd:=Lib.hid ((STc.out.alloc _).below hb12);have RWd:=Lib.hid ((RWc.out.below ((Below.refl _ _).alloc (Nat.le_refl _) _)).below hb12);clear hb12;obtain⟨⟨d0,d1,d2⟩,⟨r0,r1,r2,r3⟩,⟨q0,q1⟩,⟨f0,f1,f2⟩,l1,l2⟩:=STd.out.cells)
      |(go_at_call 75;refine(hft _).mono ?_;rintro e w13 ⟨rfl,hb13⟩;have STe:=Lib.hid (STd.out.below hb13);have RWe:=Lib.hid (RWd.out.below hb13);clear hb13 d0 d1 d2 r0 r1 r2 r3 q0 q1 f0 f1 f2 l1 l2;obtain⟨⟨d0,d1,d2⟩,⟨r0,r1,r2,r3⟩,⟨q0,q1⟩,⟨f0,f1,f2⟩,l1,l2⟩:=STe.out.cells))
     go_cut [] (fun wx=>TSt w wx K w2.heap.size v rev fl r∧Zi frV w9.heap.size wx (.slice A9 l.1.length c9) l.1)
     case first=>
      cases hF:ZbW v fl with
      |true=>
       have hq9:=Hr.out;rw [hF,if_pos rfl] at hq9;have hw0:=fun w h=>Zhd K b.2 ZaZ (by decide) w h;have hw2:=fun w h=>Zhd K (b.2.want ZaZ).2 ((file.take 10).drop 3) (by simp;omega) w h;rw [←hq9] at hw2;have hex:(B file).extract 3 10=B ((file.take 10).drop 3):=by rw [ZfC]
       have hle:10≤file.length:=by have:=STe.out.inn.fits;rw [Htf.out] at this;omega
       unfold Zf at hw0 hw2;have hw1:∀w,InAt w K b.2→Calls Tryz.prog 51 #[.pointer (some ⟨K,0,none⟩),.string ⟨#[51,68,73]⟩] w fun e w'=>e= .returned (.bool (b.2.want ZaZ).1)∧InAt w' K (b.2.want ZaZ).2∧But K w.heap.size w w':=hw0;clear hq9 hw0;generalize (b.2.want ZaZ)=sw at*;generalize (file.take 10).drop 3=mid at*;go_wp2_with (first
        |(go_at_call 51;((with_reducible refine(hw1 _ STe.out.inn).mono ?_);rintro e w14 ⟨rfl,h14,hb14⟩;have STf:=Lib.hid (STe.out.butK h14 hb14);have RWf:=Lib.hid (RWe.out.but hb14 (by omega));clear h14 hb14))
        |(go_at_call 51;((with_reducible refine(hw2 _ STf.out.inn).mono ?_);rintro e w15 ⟨rfl,h15,hb15⟩;have STg:=Lib.hid (STf.out.butK h15 hb15);have RWg:=Lib.hid (RWf.out.but hb15 (by omega));clear h15 hb15)))
       go_meet
       exact⟨STg.out,RWg.out⟩
      |false=>
       have hq9:=Hr.out;rw [hF,if_neg (by decide)] at hq9;have Hq9:=Lib.hid hq9;clear hq9;go_wp2_with fail
       go_meet
       rw [Hq9.out];exact⟨STe.out,RWe.out⟩
     have STh:=Lib.hid hcut.1;have RWh:=Lib.hid hcut.2;clear hcut d0 d1 d2 r0 r1 r2 r3 q0 q1 f0 f1 f2 l1 l2;obtain⟨⟨d0,d1,d2⟩,⟨r0,r1,r2,r3⟩,⟨q0,q1⟩,⟨f0,f1,f2⟩,l1,l2⟩:=STh.out.cells;have hfa3:=fun w h=>Zcp K r w h;by_cases hE3:r.e=0
     · have hRR:=HRR2.out;rw [if_neg (by simpa using hE3)] at hRR;have HRR3:=Lib.hid hRR;have hbd3:=fun w=>ZT (r.e:Int) r.a (by omega) w;have hrs:=fun w h=>Zec K r w h;unfold Zf at hrs;obtain⟨x8,hx8⟩:∃x8,x8=fl&&& ~~~(64:UInt8):=⟨_,rfl⟩
       have han:=ZfU fl 64 64 rfl;rw [←hx8] at han;have Hx8:=Lib.hid hx8;clear hRR hE3 hx8;go_wp2_with (first
        |(go_at_call 53;refine(hfa3 _ STh.out.inn).mono ?_;rintro e w16 ⟨rfl,hb16⟩;have STi:=Lib.hid (STh.out.below hb16);have RWi:=Lib.hid (RWh.out.below hb16);clear hb16)
        |(go_at_call 7;refine(hbd3 _).mono ?_;rintro e w17 ⟨rfl,hb17⟩;have STj:=Lib.hid ((STi.out.alloc _).below hb17);have RWj:=Lib.hid ((RWi.out.below ((Below.refl _ _).alloc (Nat.le_refl _) _)).below hb17);clear hb17 d0 d1 d2 r0 r1 r2 r3 q0 q1 f0 f1 f2 l1 l2;obtain⟨⟨d0,d1,d2⟩,⟨r0,r1,r2,r3⟩,⟨q0,q1⟩,⟨f0,f1,f2⟩,l1,l2⟩:=STj.out.cells))
       have STk:=Lib.hid (STj.out.setFl x8);have RWk:=Lib.hid (RWj.out.set (g:=w2.heap.size) (by omega) 2 (.int .u8 x8.toNat));generalize w17.setCell ⟨w2.heap.size,2,none⟩ (.int .u8 x8.toNat)=wk at*;clear d0 d1 d2 r0 r1 r2 r3 q0 q1 f0 f1 f2 l1 l2;have hl1:=STk.out.hd.lt;go_region_held3 (fun w'=>w'.cell? ⟨w2.heap.size,0,none⟩=some (.int .i64 v)∧w'.cell? ⟨w2.heap.size,1,none⟩=some (.int .u8 rev.toNat)∧w'.cell? ⟨w2.heap.size,2,none⟩=some (.int .u8 x8.toNat))
        (first|with_reducible exact STk.out.drew.cells.1|with_reducible exact STl.out.cells.1|with_reducible exact keep4 (by omega) STl.out.cells.1 _ _ _ _|with_reducible exact keep2 (by omega) (keep4 (by omega) STl.out.cells.1 _ _ _ _) _ _)
        (first
         |(go_at_call 60;refine(hrs _ STk.out.drew.inn).mono ?_;rintro e w18 ⟨rfl,h18,hb18⟩;have STl:=Lib.hid (STk.out.drew.butK h18 hb18);have RWl:=Lib.hid ((RWk.out.below (Za8 (Below.refl _ _))).but hb18 (by omega));clear h18 hb18;obtain⟨⟨d0,d1,d2⟩,⟨r0,r1,r2,r3⟩,⟨q0,q1⟩,⟨f0,f1,f2⟩,l1,l2⟩:=STl.out.cells))
       all_goals
        go_wp2_with fail
        have F:=STl.out.fin (.int .i64 v) (.int .u8 rev.toNat) (.int .u8 x8.toNat) (.slice A9 l.1.length c9) (.int .i64 0) (.int .i64 0);refine bodyPost_ret (Zfn rfl _ _ w.heap.size (w.heap.size+1) _ _ _ _ _ _ _ _ _ rfl rfl rfl F.1 F.2.1 Tryz.underlying84 rfl (by kernel_rfl) Tryz.underlying62 rfl (by kernel_rfl)) rfl ?_;rw [←hP,HRR3.out];exact⟨F.2.2,_,by rw [Hx8.out];rfl,(((((((RWl.out.set (g:=w.heap.size) (by omega) 0 _).set (g:=w.heap.size) (by omega) 1 _).set (g:=w.heap.size) (by omega) 2 _).set (g:=w.heap.size) (by omega) 3 _).set (g:=w.heap.size+1) (by omega) 0 _).set (g:=w.heap.size+1) (by omega) 1 _)).low (by omega)⟩
     · have hRR:=HRR2.out;rw [if_pos hE3] at hRR;have HRR:=Lib.hid hRR;have hbd3:=fun w=>Zaq (r.e:Int) r.a (by omega) w;have HE2:=Lib.hid hE3;clear hRR hE3;go_wp2_with (first
        |(go_at_call 53;refine(hfa3 _ STh.out.inn).mono ?_;rintro e w16 ⟨rfl,hb16⟩;have STi:=Lib.hid (STh.out.below hb16);clear hb16)
        |(go_at_call 7;refine(hbd3 _).mono ?_;rintro e w17 ⟨rfl,hb17⟩;have STj:=Lib.hid ((STi.out.alloc _).below hb17);have BX:=Lib.hid ((Bx.new w16 _ _).below hb17);clear hb17 d0 d1 d2 r0 r1 r2 r3 q0 q1 f0 f1 f2 l1 l2;obtain⟨⟨d0,d1,d2⟩,⟨r0,r1,r2,r3⟩,⟨q0,q1⟩,⟨f0,f1,f2⟩,l1,l2⟩:=STj.out.cells;have x0:=BX.out.cell 0;have x1:=BX.out.cell 1;have xl:=BX.out.lt;have hw5:=STi.out.r4.lt))
       go_region
       all_goals
        go_wp2_with fail
        have F:=STj.out.fin (.int .i64 0) (.int .u8 0) (.int .u8 0) (.slice none 0 0) (.int .i64 r.e) (.int .i64 r.a);refine bodyPost_ret (Zfn rfl _ _ w.heap.size (w.heap.size+1) _ _ _ _ _ _ _ _ _ rfl rfl rfl F.1.drew F.2.1.drew Tryz.underlying84 rfl (by kernel_rfl) Tryz.underlying62 rfl (by kernel_rfl)) rfl ?_;rw [←hP,HRR.out];exact⟨Za8 F.2.2,rfl,HE2.out⟩
   · have hRR:=HRR1.out;rw [if_pos hE2] at hRR;have HRR:=Lib.hid hRR;have hbd2:=fun w=>Zaq (l.2.e:Int) l.2.a (by omega) w;have HE2:=Lib.hid hE2;clear hRR hE2;go_wp2_with (first
      |(go_at_call 59;refine(hin _).mono ?_;rintro e w8 ⟨K2,rfl,hi8,hb8,hk8,hk9⟩;have STa:=Lib.hid (ST7.out.below hb8);have I8:=Lib.hid hi8;have hk10:w2.heap.size<K2:=(by omega);clear hi8 hb8 d0 d1 d2 r0 r1 r2 r3 q0 q1 f0 f1 f2 l1 l2;obtain⟨⟨d0,d1,d2⟩,⟨r0,r1,r2,r3⟩,⟨q0,q1⟩,⟨f0,f1,f2⟩,l1,l2⟩:=STa.out.cells)
      |(go_at_call 103;refine(hsk _ _ I8.out).mono ?_;rintro e w9 ⟨rfl,hi9,hb9⟩;have STb:=Lib.hid (STa.out.butO hb9 (by omega));have I9:=Lib.hid hi9;have hz9:=hb9.size;clear hi9 hb9 d0 d1 d2 r0 r1 r2 r3 q0 q1 f0 f1 f2 l1 l2;obtain⟨⟨d0,d1,d2⟩,⟨r0,r1,r2,r3⟩,⟨q0,q1⟩,⟨f0,f1,f2⟩,l1,l2⟩:=STb.out.cells)
      |(go_at_call 104;refine(hfs _ _ I9.out).mono ?_;rintro e w10 ⟨vl,rfl,hrw,hi10,hb10⟩;obtain⟨A9,c9,hvl9,hc9⟩:=hrw.len;subst hvl9;have STb2:=Lib.hid (STb.out.butO hb10 (by omega));have I10:=Lib.hid hi10;have RWb:=Lib.hid hrw;clear hi10 hb10 hrw d0 d1 d2 r0 r1 r2 r3 q0 q1 f0 f1 f2 l1 l2)
      |(go_at_call 53;refine(hfl2 _ _ I10.out).mono ?_;rintro e w11 ⟨rfl,hb11⟩;have STc:=Lib.hid (STb2.out.below hb11);have RWc:=Lib.hid (RWb.out.below hb11);clear hb11)
      |(go_at_call 7;refine(hbd2 _).mono ?_;rintro e w12 ⟨rfl,hb12⟩;have STd:=Lib.hid ((STc.out.alloc _).below hb12);have BX:=Lib.hid ((Bx.new w11 _ _).below hb12);clear hb12;obtain⟨⟨d0,d1,d2⟩,⟨r0,r1,r2,r3⟩,⟨q0,q1⟩,⟨f0,f1,f2⟩,l1,l2⟩:=STd.out.cells;have x0:=BX.out.cell 0;have x1:=BX.out.cell 1;have xl:=BX.out.lt;have hw5:=STc.out.r4.lt))
     go_region
     all_goals
      go_wp2_with fail
      have F:=STd.out.fin (.int .i64 0) (.int .u8 0) (.int .u8 0) (.slice none 0 0) (.int .i64 l.2.e) (.int .i64 l.2.a);refine bodyPost_ret (Zfn rfl _ _ w.heap.size (w.heap.size+1) _ _ _ _ _ _ _ _ _ rfl rfl rfl F.1.drew F.2.1.drew Tryz.underlying84 rfl (by kernel_rfl) Tryz.underlying62 rfl (by kernel_rfl)) rfl ?_;rw [←hP,HRR.out];exact⟨Za8 F.2.2,rfl,HE2.out⟩
 · have hRR:=HR.out;rw [if_pos hE] at hRR;have HRR:=Lib.hid hRR;have hbd:=fun w=>Zaq (b.2.e:Int) b.2.a (by omega) w;have HE:=Lib.hid hE;clear hRR hE;go_enter Tryz.func41,Tryz.ntmps41
   go_wp2_with (first
    |(go_at_call 50;refine(hrd _).mono ?_;rintro e w1 ⟨K,rfl,h1,hb1,hK1,hK2⟩;have H1:=Lib.hid h1;have L1:=Lib.hid (Zeh hb1);simp only [World.size_alloc] at hK1;have RA:=Lib.hid (Bx.below ((Bx.new w zTag 84).alloc _) hb1);have RB:Hid (Bx w1 (w.heap.size+1) #[.int .i64 0,.int .i64 0] 62):=Lib.hid (Bx.below (by have:=Bx.new (w.alloc (.cells zTag 84)) #[.int .i64 0,.int .i64 0] 62;rw [World.size_alloc] at this;exact this) hb1);clear h1 hb1)
    |(go_at_call 99;refine(hhd _ _ H1.out).mono ?_;rintro e w2 ⟨rfl,h2,hb2⟩;have ST:Hid (TSt w (w2.alloc (.cells (three v rev fl) 23)) K w2.heap.size v rev fl hh.2):=Lib.hid ⟨(RA.out.but hb2 (by omega)).alloc _,(RB.out.but hb2 (by omega)).alloc _,Bx.new w2 _ _,h2.alloc _,(L1.out.trans ((hb2.mono L1.out.size).below (by omega))).alloc (by have:=L1.out.size;have:=hb2.size;omega) _,by omega,by have:=hb2.size;omega,by have:=hb2.size;omega⟩;clear h2 hb2;obtain⟨⟨d0,d1,d2⟩,⟨r0,r1,r2,r3⟩,⟨q0,q1⟩,⟨f0,f1,f2⟩,l1,l2⟩:=ST.out.cells)
    |(go_at_call 100;refine(hsf _ _ ST.out.inn).mono ?_;rintro e w3 ⟨rfl,h3,hb3⟩;have ST2:=Lib.hid (ST.out.butK h3 hb3);clear h3 hb3)
    |(go_at_call 57;refine(htk _ _ ST2.out.inn).mono ?_;rintro e w4 ⟨rfl,h4,hb4⟩;have ST3:=Lib.hid (ST2.out.butK h4 hb4);clear h4 hb4)
    |(go_at_call 53;refine(hfa _ _ ST3.out.inn).mono ?_;rintro e w5 ⟨rfl,hb5⟩;have ST4:=Lib.hid (ST3.out.below hb5);clear hb5)
    |(go_at_call 7;refine(hbd _).mono ?_;rintro e w6 ⟨rfl,hb6⟩;have ST5:=Lib.hid ((ST4.out.alloc _).below hb6);have BX:=Lib.hid ((Bx.new w5 _ _).below hb6);clear hb6 d0 d1 d2 r0 r1 r2 r3 q0 q1 f0 f1 f2 l1 l2;obtain⟨⟨d0,d1,d2⟩,⟨r0,r1,r2,r3⟩,⟨q0,q1⟩,⟨f0,f1,f2⟩,l1,l2⟩:=ST5.out.cells;have x0:=BX.out.cell 0;have x1:=BX.out.cell 1;have xl:=BX.out.lt;have hw5:=ST4.out.r4.lt))
   go_region
   all_goals
    go_wp2_with fail
    have F:=ST5.out.fin (.int .i64 0) (.int .u8 0) (.int .u8 0) (.slice none 0 0) (.int .i64 b.2.e) (.int .i64 b.2.a);refine bodyPost_ret (Zfn rfl _ _ w.heap.size (w.heap.size+1) _ _ _ _ _ _ _ _ _ rfl rfl rfl F.1.drew F.2.1.drew Tryz.underlying84 rfl (by kernel_rfl) Tryz.underlying62 rfl (by kernel_rfl)) rfl ?_;rw [←hP,HRR.out];exact⟨Za8 F.2.2,rfl,HE.out⟩
theorem ZoZ (file:List UInt8)(hl:file.length≤900000000)(w:World):
 Calls Tryz.prog 41 #[.string (B file)] w (Ze2 w (Zbf file)):=by
 by_cases h3:file.take 3=ZB
 · exact Zo1 file hl h3 w
 · exact Zo0 file hl h3 w
end Go.Proofs.YtecandjkbbpooaaGreatDoor
