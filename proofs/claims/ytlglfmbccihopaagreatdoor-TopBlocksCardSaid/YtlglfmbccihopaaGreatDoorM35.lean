/- Lemmas for a statement on the tops; conditions: as each says. -/
import Derived.Test.YtlglfmbccihopaaGreatDoorM34
set_option linter.unusedVariables false
set_option linter.unusedSimpArgs false
set_option maxRecDepth 100000
set_option maxHeartbeats 4000000
namespace Go.Proofs.YtlglfmbccihopaaGreatDoor
open Go Go.RowKit
theorem Zh9 {α:Type} {f:α→List Value} {B0:Nat} {w:World} {v:Value} {l:List α} (h:Zg f B0 w v l):∀bk,v.ownBlock=some bk→B0≤bk∧bk<w.heap.size:=by
 intro bk hbk;rcases h with⟨_,hh⟩|⟨b2,c2,_,hh,_,hB,hlt,_⟩
 · subst hh;simp [Value.ownBlock] at hbk
 · subst hh;simp only [Value.ownBlock,Option.some.injEq] at hbk;subst hbk;exact⟨hB,hlt⟩
def ZbT (vm:Value)(v:List UInt8)(vs:Int)(vn:Value)(at_:Int)(sound:List UInt8):Array Value:=#[vm,.string ⟨#[]⟩,.string (B v),.int .i64 vs,vn,.int .i64 at_,.string (B sound)]
structure OfSt (w0 wx:World)(FA:Array Value)(G Bm:Nat)(v:List UInt8)(vs:Int)(vn:Value)(at_:Int)(sound:List UInt8)(ns:List Nx)(vl:Value)(ms:List Mx):Prop where
 b:Bx wx w0.heap.size FA 30
 res:Bx wx (w0.heap.size+1) #[.slice none 0 0,.string ⟨#[]⟩,.string ⟨#[]⟩,.int .i64 0,.slice none 0 0,.int .i64 0,.string ⟨#[]⟩] 68
 m:Bx wx G (ZbT vl v vs vn at_ sound) 68
 own:wx.ownsRow Bm 90 2 vl ms.length (ms.flatMap mrV)
 nil_:ms=[]→vl= .slice none 0 0
 nts:Zg nxV (w0.heap.size+2) wx vn ns
 ntl:∀bk,vn.ownBlock=some bk→bk<Bm∧bk≠G
 low:Below w0.heap.size w0 wx
 hG:w0.heap.size+2≤G
 hB:G<Bm
 hs:Bm≤wx.heap.size
section
variable {w0 w w':World} {FA:Array Value} {G Bm:Nat} {v:List UInt8} {vs at_:Int} {vn vl:Value} {sound:List UInt8} {ns:List Nx} {ms:List Mx}
theorem OfSt.below (h:OfSt w0 w FA G Bm v vs vn at_ sound ns vl ms)(hb:Below w.heap.size w w'):OfSt w0 w' FA G Bm v vs vn at_ sound ns vl ms:=⟨h.b.below hb,h.res.below hb,h.m.below hb,ZE h.own hb,h.nil_,h.nts.below hb,h.ntl,h.low.trans (hb.mono h.low.size),h.hG,h.hB,Nat.le_trans h.hs hb.size⟩
theorem OfSt.alloc (h:OfSt w0 w FA G Bm v vs vn at_ sound ns vl ms)(ob:Obj):OfSt w0 (w.alloc ob) FA G Bm v vs vn at_ sound ns vl ms:=h.below ((Below.refl _ _).alloc (Nat.le_refl _) _)
end
theorem Zg.keepB {α:Type} {f:α→List Value} {B0:Nat} {w w':World} {v:Value} {l:List α} (h:Zg f B0 w v l)(hs:w.heap.size≤w'.heap.size)(hb:∀bk,v.ownBlock=some bk→bk<w.heap.size→w'.heap[bk]? =w.heap[bk]?):Zg f B0 w' v l:=by
 rcases h with h|⟨bk,c,h0,h1,h2,h5,h3,h4⟩
 · exact .inl h
 · refine .inr ⟨bk,c,h0,h1,h2,h5,by omega,fun j u hu=> ?_⟩;have hk:=hb bk (by rw [h1];rfl) h3;rw [←h4 j u hu];unfold World.cell?;rw [hk]
theorem OfSt.next {w0 w w':World} {FA:Array Value} {G Bm:Nat} {v:List UInt8} {vs at_:Int} {vn vl v6:Value} {sound:List UInt8} {ns:List Nx} {ms ms2:List Mx} (h:OfSt w0 w FA G Bm v vs vn at_ sound ns vl ms)(ho:w'.ownsRow Bm 90 2 v6 (ms++ms2).length ((ms++ms2).flatMap mrV))(hb:Below Bm w w')(hne:ms++ms2≠[]):
 OfSt w0 (w'.setCell ⟨G,0,none⟩ v6) FA G Bm v vs vn at_ sound ns v6 (ms++ms2):=by
 have h1:=h.hG;have h2:=h.hB;have hbt:But G w'.heap.size w' (w'.setCell ⟨G,0,none⟩ v6):=(But.refl _ _ _).setCell (p:=⟨G,0,none⟩) (.inr rfl) _;exact⟨(h.b.same6 hb (by omega)).set (by omega) 0 _,(h.res.same6 hb (by omega)).set (by omega) 0 _,(h.m.same6 hb (by omega)).put 0 _,Zb8 ho hbt (by omega),fun e=>absurd e hne,
  (h.nts.keepB hb.size (fun bk hk _=>hb.block bk (h.ntl bk hk).1)).keepB hbt.size (fun bk hk hl=>hbt.block bk hl (h.ntl bk hk).2),h.ntl,
  (h.low.trans (hb.mono (by omega))).setCell (p:=⟨G,0,none⟩) (by show w0.heap.size≤G;omega) _,h1,h2,Nat.le_trans (Nat.le_trans h.hs hb.size) hbt.size⟩
theorem OfSt.cells {w0 w:World} {G Bm:Nat} {v:List UInt8} {vs at_:Int} {vn vl:Value} {sound:List UInt8} {ns:List Nx} {ms:List Mx} {a b c d e f:Value} (h:OfSt w0 w #[a,b,c,d,e,f] G Bm v vs vn at_ sound ns vl ms):
 (w.cell? ⟨w0.heap.size,0,none⟩=some a)∧
 (w.cell? ⟨G,0,none⟩=some vl∧w.cell? ⟨G,1,none⟩=some (.string ⟨#[]⟩)∧w.cell? ⟨G,2,none⟩=some (.string (B v))∧w.cell? ⟨G,3,none⟩=some (.int .i64 vs)∧w.cell? ⟨G,4,none⟩=some vn∧w.cell? ⟨G,5,none⟩=some (.int .i64 at_)∧w.cell? ⟨G,6,none⟩=some (.string (B sound)))∧
 (∀j,w.frozen? ⟨G,j,none⟩=false)∧(∀j,w.frozen? ⟨w0.heap.size+1,j,none⟩=false)∧G<w.heap.size∧w0.heap.size+1<w.heap.size:=
 ⟨h.b.cell 0,⟨h.m.cell 0,h.m.cell 1,h.m.cell 2,h.m.cell 3,h.m.cell 4,h.m.cell 5,h.m.cell 6⟩,h.m.free,h.res.free,h.m.lt,h.res.lt⟩
def Z7:Array Value:=#[.slice none 0 0,.string ⟨#[]⟩,.string ⟨#[]⟩,.int .i64 0,.slice none 0 0,.int .i64 0,.string ⟨#[]⟩]
theorem OfSt.mk1 {w0 w1:World} {FA:Array Value} {G:Nat} {v:List UInt8} {vs at_:Int} {vn:Value} {sound:List UInt8} {ns:List Nx} (hb:Bx w1 w0.heap.size FA 30)(hr:Bx w1 (w0.heap.size+1) Z7 68)(hl:Below w0.heap.size w0 w1)(hm:Bx w1 G Z7 68)(hG:w0.heap.size+2≤G)(hn:Zg nxV (w0.heap.size+2) w1 vn ns)(hne:∀bk,vn.ownBlock=some bk→bk≠G):
 OfSt w0 (w1.setRow G (ZbT (.slice none 0 0) v vs vn at_ sound)) FA G w1.heap.size v vs vn at_ sound ns (.slice none 0 0) []:=by
 have hbt:But G w1.heap.size w1 (w1.setRow G (ZbT (.slice none 0 0) v vs vn at_ sound)):=Zj0 _;exact⟨hb.but hbt (by omega),hr.but hbt (by omega),hm.row _,⟨rfl,.inl ⟨rfl,rfl⟩⟩,fun _=>rfl,hn.keepB hbt.size (fun bk hk hl=>hbt.block bk hl (hne bk hk)),fun bk hk=>⟨(Zh9 hn bk hk).2,hne bk hk⟩,
  hl.trans ((hbt.mono hl.size).below (by omega)),hG,hm.lt,hbt.size⟩
theorem ZmB (v:List UInt8)(vs:Int)(A:Option Addr)(n c:Nat)(at_:Int)(sound:List UInt8):(ZbT (.slice none 0 0) v vs (.slice A n c) at_ sound).all (·.oneCell')=true:=by
 unfold ZbT;simp
 repeat (first|exact rfl|refine And.intro rfl ?_)
def OfRelF (w0:World)(FA:Array Value)(G Bm:Nat)(v:List UInt8)(vs:Int)(vn:Value)(at_:Int)(sound:List UInt8)(ns:List Nx)(ms:List Mx)(i:Value)(wx:World):Prop:=∃(k:Nat) (vl:Value),k≤ms.length∧i= .int .i64 k∧Hid (OfSt w0 wx FA G Bm v vs vn at_ sound ns vl (ms.take k))
def ZgG (w:World)(ms:List Mx)(v:List UInt8)(vs:Int)(ns:List Nx)(at_:Int)(sound:List UInt8)(e:Ending)(w':World):Prop:=∃vl vn,e= .returned (.agg (ZbT vl v vs vn at_ sound))∧Zg mrV w.heap.size w' vl ms∧Zg nxV w.heap.size w' vn ns∧Below w.heap.size w w'
theorem Zjb (ms:List Mx)(v:List UInt8)(vs:Int)(ns:List Nx)(at_:Int)(sound:List UInt8)(A AN:Option Addr)(c cN:Nat)(hm:ms.length≤1000)(hn:ns.length≤1000)(w:World)(h:RdN 2 mxV w w.heap.size A ms)(h2:RdN 3 nxV w w.heap.size AN ns):
 Calls Tryz.prog 12 #[.agg (flV (.slice A ms.length c) v vs (.slice AN ns.length cN) at_ sound)] w (ZgG w ms v vs ns at_ sound):=by
 generalize hP:ZgG w ms v vs ns at_ sound=P at*;have HP:=Lib.hid hP;have HR:=Lib.hid h;have hoc:=fun wx (hb:Below w.heap.size w wx)=>Zoz v vs AN cN ns hn wx ((h2.below hb).more hb.size);unfold ZgH at hoc;unfold flV;have B0:Hid (Bx ((w.alloc (.cells #[.slice A ms.length c,.string (B v),.int .i64 vs,.slice AN ns.length cN,.int .i64 at_,.string (B sound)] 30)).alloc (.cells #[.slice none 0 0,.string ⟨#[]⟩,.string ⟨#[]⟩,.int .i64 0,.slice none 0 0,.int .i64 0,.string ⟨#[]⟩] 68)) w.heap.size #[.slice A ms.length c,.string (B v),.int .i64 vs,.slice AN ns.length cN,.int .i64 at_,.string (B sound)] 30):=Lib.hid ((Bx.new w _ _).alloc _);have R0:Hid (Bx ((w.alloc (.cells #[.slice A ms.length c,.string (B v),.int .i64 vs,.slice AN ns.length cN,.int .i64 at_,.string (B sound)] 30)).alloc (.cells #[.slice none 0 0,.string ⟨#[]⟩,.string ⟨#[]⟩,.int .i64 0,.slice none 0 0,.int .i64 0,.string ⟨#[]⟩] 68)) (w.heap.size+1) Z7 68):=Lib.hid (by
  have:=Bx.new (w.alloc (.cells #[.slice A ms.length c,.string (B v),.int .i64 vs,.slice AN ns.length cN,.int .i64 at_,.string (B sound)] 30)) Z7 68
  rwa [World.size_alloc] at this)
 have L0:Hid (Below w.heap.size w ((w.alloc (.cells #[.slice A ms.length c,.string (B v),.int .i64 vs,.slice AN ns.length cN,.int .i64 at_,.string (B sound)] 30)).alloc (.cells #[.slice none 0 0,.string ⟨#[]⟩,.string ⟨#[]⟩,.int .i64 0,.slice none 0 0,.int .i64 0,.string ⟨#[]⟩] 68))):=Lib.hid (((Below.refl _ w).alloc (Nat.le_refl _) _).alloc (by simp) _);clear h hP h2;go_enter Tryz.func12,Tryz.ntmps12
 go_upto_region 1 with fail
 generalize hW:(w.alloc _).alloc _=W0 at*;clear hW;have hW2:w.heap.size+2≤W0.heap.size:=R0.out.lt;go_cut [3] (fun s3 wx=>∃(G Bm:Nat) (vn:Value),s3= .pointer (some ⟨G,0,none⟩)∧OfSt w wx #[.slice A ms.length c,.string (B v),.int .i64 vs,.slice AN ns.length cN,.int .i64 at_,.string (B sound)] G Bm v vs vn at_ sound ns (.slice none 0 0) [])
 case first=>
  have hf:=fun(wx:World) (h:Bx wx w.heap.size #[.slice A ms.length c,.string (B v),.int .i64 vs,.slice AN ns.length cN,.int .i64 at_,.string (B sound)] 30)=>(⟨h.cell 1,h.cell 2,h.cell 3,h.cell 4,h.cell 5⟩:wx.cell? ⟨w.heap.size,1,none⟩=some (.string (B v))∧wx.cell? ⟨w.heap.size,2,none⟩=some (.int .i64 vs)∧wx.cell? ⟨w.heap.size,3,none⟩=some (.slice AN ns.length cN)∧wx.cell? ⟨w.heap.size,4,none⟩=some (.int .i64 at_)∧wx.cell? ⟨w.heap.size,5,none⟩=some (.string (B sound)))
  have HF:=Lib.hid hf;clear hf;refine ZeT (fun w'=>w'.cell? ⟨w.heap.size,1,none⟩=some (.string (B v))∧w'.cell? ⟨w.heap.size,2,none⟩=some (.int .i64 vs)∧w'.cell? ⟨w.heap.size,3,none⟩=some (.slice AN ns.length cN)∧w'.cell? ⟨w.heap.size,4,none⟩=some (.int .i64 at_)∧w'.cell? ⟨w.heap.size,5,none⟩=some (.string (B sound))) (.one 0 true (.one 1 true (.one 3 true (.one 4 true (.one 5 true (.one 6 true (.two 2 8 (.one 7 true (.one 8 false (.one 9 false .nil))) (.one 2 false (.one 7 true (.one 9 false .nil)))))))))) (by kernel_rfl) (by kernel_rfl) (by kernel_rfl) (Nat.le_of_ble_eq_true rfl) (fun _ _ d _ _ h=>by cases d<;>exact h) (HF.out _ (Bx.dn B0.out 1)) ?_
  iterate 6 (refine' ZH rfl (by rfl) _ (fun w' hSw=>_) _;rotate_left;(obtain⟨s0,s1,s2,s3,s4⟩:=hSw;go_simp;try with_reducible rfl);try simp only [Act.put,List.setIfInBounds_toArray,List.set_cons_zero,List.set_cons_succ])
  refine ZfX (ZJ rfl (by rfl) (fun KK hKK=> ?_)) (ZJ rfl (by rfl) (fun KK hKK=> ?_))
  · go_simp
    go_at_call 28
    refine(hoc (W0.drewN 1) (below_drewN L0.out 1)).mono ?_;rintro e w1 ⟨vn,rfl,hvn,hb1⟩;have BB1:=Lib.hid (Bx.below (Bx.dn B0.out 1) hb1);have R1:=Lib.hid (Bx.below (Bx.dn R0.out 1) hb1);have L1:=Lib.hid ((below_drewN L0.out 1).trans (hb1.mono (below_drewN L0.out 1).size));have N1:=Lib.hid hvn;clear hvn hb1;obtain⟨AV,nV,cV,hvv⟩:=Zbc N1.out;subst hvv;go_wp2_with fail
    refine hKK.out _ _ (HF.out _ BB1.out) ?_;clear hKK KK
    try simp only [Act.put,List.setIfInBounds_toArray,List.set_cons_zero,List.set_cons_succ]
    refine' ZH rfl (by rfl) _ (fun w' hSw=>_) _
    rotate_left
    · go_simp
      try with_reducible rfl
    try simp only [Act.put,List.setIfInBounds_toArray,List.set_cons_zero,List.set_cons_succ]
    refine Zal (ZJ rfl (by rfl) (fun KK hKK=> ?_))
    go_simp
    go_wp2_with fail
    refine hKK.out _ _ (HF.out _ (BB1.out.alloc _)) ?_;clear hKK KK
    try simp only [Act.put,List.setIfInBounds_toArray,List.set_cons_zero,List.set_cons_succ]
    have M1:Hid (Bx (w1.alloc (.cells #[.slice none 0 0,.string ⟨#[]⟩,.string ⟨#[]⟩,.int .i64 0,.slice none 0 0,.int .i64 0,.string ⟨#[]⟩] 68)) w1.heap.size Z7 68):=Lib.hid (Bx.new _ _ _);have SQ:=Lib.hid (OfSt.mk1 (v:=v) (vs:=vs) (at_:=at_) (sound:=sound) (BB1.out.alloc (.cells #[.slice none 0 0,.string ⟨#[]⟩,.string ⟨#[]⟩,.int .i64 0,.slice none 0 0,.int .i64 0,.string ⟨#[]⟩] 68)) (R1.out.alloc (.cells #[.slice none 0 0,.string ⟨#[]⟩,.string ⟨#[]⟩,.int .i64 0,.slice none 0 0,.int .i64 0,.string ⟨#[]⟩] 68)) (L1.out.alloc L1.out.size (.cells #[.slice none 0 0,.string ⟨#[]⟩,.string ⟨#[]⟩,.int .i64 0,.slice none 0 0,.int .i64 0,.string ⟨#[]⟩] 68)) M1.out R1.out.lt ((N1.out.below ((Below.refl _ _).alloc (Nat.le_refl _) (.cells #[.slice none 0 0,.string ⟨#[]⟩,.string ⟨#[]⟩,.int .i64 0,.slice none 0 0,.int .i64 0,.string ⟨#[]⟩] 68))).low hW2) (fun bk hk=>by have:=(Zh9 N1.out bk hk).2;omega));refine Zal (ZJ rfl (by rfl) (fun KK hKK=> ?_));refine wp_store_row 68 _ _ rfl w1.heap.size (ZbT (.slice none 0 0) v vs (.slice AV nV cV) at_ sound) rfl rfl 68 Z7 M1.out (by kernel_rfl) rfl (ZmB _ _ _ _ _ _ _) ?_;refine hKK.out _ _ (HF.out _ SQ.out.b) ?_;clear hKK KK
    try simp only [Act.put,List.setIfInBounds_toArray,List.set_cons_zero,List.set_cons_succ]
    refine Zcv ?_;go_wp2_with fail
    go_meet
    exact⟨_,_,_,rfl,SQ.out⟩
  · go_simp
    go_wp2_with fail
    refine hKK.out _ _ (HF.out _ ((Bx.dn B0.out 1).alloc (.cells #[.slice none 0 0,.string ⟨#[]⟩,.string ⟨#[]⟩,.int .i64 0,.slice none 0 0,.int .i64 0,.string ⟨#[]⟩] 68))) ?_;clear hKK KK
    try simp only [Act.put,List.setIfInBounds_toArray,List.set_cons_zero,List.set_cons_succ]
    refine Zal (ZJ rfl (by rfl) (fun KK hKK=> ?_))
    go_simp
    go_at_call 28
    refine(hoc ((W0.drewN 1).alloc (.cells #[.slice none 0 0,.string ⟨#[]⟩,.string ⟨#[]⟩,.int .i64 0,.slice none 0 0,.int .i64 0,.string ⟨#[]⟩] 68)) ((below_drewN L0.out 1).alloc (below_drewN L0.out 1).size (.cells #[.slice none 0 0,.string ⟨#[]⟩,.string ⟨#[]⟩,.int .i64 0,.slice none 0 0,.int .i64 0,.string ⟨#[]⟩] 68))).mono ?_;rintro e w1 ⟨vn,rfl,hvn,hb1⟩;have BB1:=Lib.hid (Bx.below ((Bx.dn B0.out 1).alloc (.cells #[.slice none 0 0,.string ⟨#[]⟩,.string ⟨#[]⟩,.int .i64 0,.slice none 0 0,.int .i64 0,.string ⟨#[]⟩] 68)) hb1);have R1:=Lib.hid (Bx.below ((Bx.dn R0.out 1).alloc (.cells #[.slice none 0 0,.string ⟨#[]⟩,.string ⟨#[]⟩,.int .i64 0,.slice none 0 0,.int .i64 0,.string ⟨#[]⟩] 68)) hb1);have L1:=Lib.hid (((below_drewN L0.out 1).alloc (below_drewN L0.out 1).size (.cells #[.slice none 0 0,.string ⟨#[]⟩,.string ⟨#[]⟩,.int .i64 0,.slice none 0 0,.int .i64 0,.string ⟨#[]⟩] 68)).trans (hb1.mono ((below_drewN L0.out 1).alloc (below_drewN L0.out 1).size (.cells #[.slice none 0 0,.string ⟨#[]⟩,.string ⟨#[]⟩,.int .i64 0,.slice none 0 0,.int .i64 0,.string ⟨#[]⟩] 68)).size));have N1:=Lib.hid hvn;have M1:=Lib.hid (Bx.below (Bx.new (W0.drewN 1) Z7 68) hb1);clear hvn hb1;obtain⟨AV,nV,cV,hvv⟩:=Zbc N1.out;subst hvv;go_wp2_with fail
    refine hKK.out _ _ (HF.out _ BB1.out) ?_;clear hKK KK
    try simp only [Act.put,List.setIfInBounds_toArray,List.set_cons_zero,List.set_cons_succ]
    refine' ZH rfl (by rfl) _ (fun w' hSw=>_) _
    rotate_left
    · go_simp
      try with_reducible rfl
    try simp only [Act.put,List.setIfInBounds_toArray,List.set_cons_zero,List.set_cons_succ]
    have SQ:=Lib.hid (OfSt.mk1 (v:=v) (vs:=vs) (at_:=at_) (sound:=sound) BB1.out R1.out L1.out M1.out hW2 (N1.out.low (by rw [World.size_alloc];exact Nat.le_trans hW2 (Nat.le_succ _))) (fun bk hk=>by have:=(Zh9 N1.out bk hk).1;rw [World.size_alloc] at this;have h3:(W0.drewN 1).heap.size=W0.heap.size:=rfl;omega));refine Zal (ZJ rfl (by rfl) (fun KK hKK=> ?_));refine wp_store_row 68 _ _ rfl W0.heap.size (ZbT (.slice none 0 0) v vs (.slice AV nV cV) at_ sound) rfl rfl 68 Z7 M1.out (by kernel_rfl) rfl (ZmB _ _ _ _ _ _ _) ?_;refine hKK.out _ _ (HF.out _ SQ.out.b) ?_;clear hKK KK
    try simp only [Act.put,List.setIfInBounds_toArray,List.set_cons_zero,List.set_cons_succ]
    refine Zcv ?_;go_wp2_with fail
    go_meet
    exact⟨_,_,_,rfl,SQ.out⟩
 obtain⟨G,Bm,vn,rfl,hst⟩:=hcut;have ST0:=Lib.hid hst;clear hst;obtain⟨c0,⟨z0,z1,z2,z3,z4,z5,z6⟩,f0,f1,l1,l2⟩:=ST0.out.cells;go_wp2_with fail
 go_loopw [17] (fun i wx=>OfRelF w #[.slice A ms.length c,.string (B v),.int .i64 vs,.slice AN ns.length cN,.int .i64 at_,.string (B sound)] G Bm v vs vn at_ sound ns ms i wx) (fun i _=>ms.length - (intOf i).toNat)
 case atStart=>exact⟨0,_,Nat.zero_le _,rfl,ST0⟩
 case round=>
  obtain⟨k,vl,hk,rfl,ST⟩:=hrel;clear c0 z0 z1 z2 z3 z4 z5 z6 f0 f1 l1 l2;obtain⟨A0,n0,c0',hvl⟩:=Zb9 ST.out.own;subst hvl;obtain⟨c0,⟨z0,z1,z2,z3,z4,z5,z6⟩,f0,f1,l1,l2⟩:=ST.out.cells;by_cases hlt:k<ms.length
  · obtain⟨m,hk1⟩:∃m,ms[k]? =some m:=⟨_,List.getElem?_eq_getElem hlt⟩
    obtain⟨ad,rfl,hadb,y0,y1⟩:=(HR.out.below ST.out.low).meta hk1;have hbl:ad.block<wr.heap.size:=Nat.lt_of_lt_of_le hadb ST.out.low.size;have HT:=Lib.hid (ZdW hk1);have htl:(ms.take k).length≤1000:=by rw [List.length_take];omega
    have hkl:=m.kind.toNat_lt;have hq0:IntKind.i64.wrap (m.kind.toNat:Int)=m.kind.toNat:=by rw [IntKind.wrap_i64];omega
    have hBs:=ST.out.hs;have hGB:=ST.out.hB;clear hk1;generalize ms.take k=tk at*;go_wp2_with (at_builtin;refine app_rm rfl _ _ rfl Bm (.slice A0 n0 c0') tk rfl (wr.alloc (.cells #[.int .u8 m.kind.toNat,.string (B m.body)] 72)) m _ rfl (ST.out.alloc _).own (by rw [World.size_alloc];omega) (by omega) (by show Value.slice (some ⟨wr.heap.size+1,0,none⟩) 1 1=_;rw [World.size_alloc]) ?_;intro v6 w6 HO6 hb6;obtain⟨A6,n6,c6,hv6⟩:=Zb9 HO6.out;subst hv6;have BD:=Lib.hid ((ST.out.alloc _).next HO6.out hb6 (by simp));have yf:=(ST.out.alloc (.cells #[.int .u8 m.kind.toNat,.string (B m.body)] 72)).m.same6 hb6 hGB;have y6:=yf.cell 0;have yl:=yf.lt;have yz:=yf.free 0;clear yf hb6 HO6)
    go_roundw
    case rel=>exact⟨k+1,_,by omega,by go_num,by rw [HT.out];exact BD⟩
    case measure=>simp [intOf];omega
  · obtain rfl:k=ms.length:=by omega
    have q0:=ST.out.res.cell 0;have q1:=ST.out.res.cell 1;have q2:=ST.out.res.cell 2;have q3:=ST.out.res.cell 3;have q4:=ST.out.res.cell 4;have q5:=ST.out.res.cell 5;have q6:=ST.out.res.cell 6;obtain⟨AV,nV,cV,hvv⟩:=Zbc ST.out.nts;subst hvv;go_wp2_with fail
    have hb:But (w.heap.size+1) wr.heap.size wr (((((((wr.setCell ⟨w.heap.size+1,0,none⟩ (.slice A0 n0 c0')).setCell ⟨w.heap.size+1,1,none⟩ (.string ⟨#[]⟩)).setCell ⟨w.heap.size+1,2,none⟩ (.string (B v))).setCell ⟨w.heap.size+1,3,none⟩ (.int .i64 vs)).setCell ⟨w.heap.size+1,4,none⟩ (.slice AV nV cV)).setCell ⟨w.heap.size+1,5,none⟩ (.int .i64 at_)).setCell ⟨w.heap.size+1,6,none⟩ (.string (B sound))):=
     (((((((But.refl _ _ _).setCell (p:=⟨w.heap.size+1,0,none⟩) (.inr rfl) _).setCell (p:=⟨w.heap.size+1,1,none⟩) (.inr rfl) _).setCell (p:=⟨w.heap.size+1,2,none⟩) (.inr rfl) _).setCell (p:=⟨w.heap.size+1,3,none⟩) (.inr rfl) _).setCell (p:=⟨w.heap.size+1,4,none⟩) (.inr rfl) _).setCell (p:=⟨w.heap.size+1,5,none⟩) (.inr rfl) _).setCell (p:=⟨w.heap.size+1,6,none⟩) (.inr rfl) _
    have F2:=((((((ST.out.res.put 0 (.slice A0 n0 c0')).put 1 (.string ⟨#[]⟩)).put 2 (.string (B v))).put 3 (.int .i64 vs)).put 4 (.slice AV nV cV)).put 5 (.int .i64 at_)).put 6 (.string (B sound));have hrw:Zg mrV Bm wr (.slice A0 n0 c0') (ms.take ms.length):=Zg.of_own rfl ST.out.own ST.out.nil_;rw [List.take_length] at hrw;have hG:=ST.out.hG;have hGB:=ST.out.hB;refine bodyPost_ret (results_cell_row rfl _ _ (w.heap.size+1) _ _ _ _ rfl F2 Tryz.underlying68 rfl (by kernel_rfl)) rfl ?_;rw [←HP.out];exact⟨_,_,rfl,(hrw.but hb (by omega)).low (by omega),(ST.out.nts.but hb (by omega)).low (by omega),ST.out.low.trans ((hb.mono ST.out.low.size).below (by omega))⟩
def ZcE (a b:List Nx):Prop:=a.map Nx.up=b.map Nx.up
theorem ZcE.len {a b:List Nx} (h:ZcE a b):a.length=b.length:=by have:=congrArg List.length h;simpa using this
theorem ZcE.at_ {a b:List Nx} (h:ZcE a b){k:Nat} {x y:Nx} (hx:a[k]? =some x)(hy:b[k]? =some y):x.name=y.name∧x.text=y.text:=by
 have h1:(a.map Nx.up)[k]? =some x.up:=by rw [List.getElem?_map,hx];rfl
 rw [h,List.getElem?_map,hy] at h1;injection h1 with h1
 have e1:=congrArg Nx.name h1;have e2:=congrArg Nx.text h1;exact⟨e1.symm,e2.symm⟩
theorem ZfR (a b:ByteArray)(c:Int):(#[Value.string a,.string b,.int .i64 c]:Array Value).all (·.oneCell')=true:=by
 simp
 repeat (first|exact rfl|refine And.intro rfl ?_)
def ScRelF (w0:World)(BA BB:Array Value)(n:Nat)(i:Value)(wx:World):Prop:=∃k:Nat,k≤n∧i= .int .i64 k∧Bx wx w0.heap.size BA 66∧Bx wx (w0.heap.size+1) BB 66∧Below w0.heap.size w0 wx
theorem ZoY (v:List UInt8)(s1 s2:Int)(a b:List Nx)(A1 A2:Option Addr)(c1 c2:Nat)(hn:a.length≤1000)(hab:ZcE a b)(w:World)(h1:RdN 3 nxV w w.heap.size A1 a)(h2:RdN 3 nxV w w.heap.size A2 b):
 Calls Tryz.prog 27 #[.agg #[.string ⟨#[]⟩,.string (B v),.int .i64 s1,.slice A1 a.length c1],.agg #[.string ⟨#[]⟩,.string (B v),.int .i64 s2,.slice A2 b.length c2],.bool false] w fun e w'=>e= .returned (.bool true)∧Below w.heap.size w w':=by
 have hlen:=hab.len;have HAB:=Lib.hid hab;have HR1:=Lib.hid h1;have HR2:=Lib.hid h2;rw [←hlen];have HLN:=Lib.hid hlen;clear h1 h2 hab hlen;have e1:=Bx.new w #[.string ⟨#[]⟩,.string (B v),.int .i64 0,.slice A1 a.length c1] 66;have X1:=Lib.hid (e1.alloc (.cells #[.string ⟨#[]⟩,.string (B v),.int .i64 0,.slice A2 a.length c2] 66));have e2:=Bx.new (w.alloc (.cells #[.string ⟨#[]⟩,.string (B v),.int .i64 0,.slice A1 a.length c1] 66)) #[.string ⟨#[]⟩,.string (B v),.int .i64 0,.slice A2 a.length c2] 66;rw [World.size_alloc] at e2;have X2:=Lib.hid e2;have L0:=Lib.hid (((Below.refl _ w).alloc (Nat.le_refl _) (.cells #[.string ⟨#[]⟩,.string (B v),.int .i64 0,.slice A1 a.length c1] 66)).alloc (by simp) (.cells #[.string ⟨#[]⟩,.string (B v),.int .i64 0,.slice A2 a.length c2] 66));clear e1 e2;go_enter Tryz.func27,Tryz.ntmps27
 go_wp2_with fail
 go_loopw [33] (fun i wx=>ScRelF w #[.string ⟨#[]⟩,.string (B v),.int .i64 0,.slice A1 a.length c1] #[.string ⟨#[]⟩,.string (B v),.int .i64 0,.slice A2 a.length c2] a.length i wx) (fun i _=>a.length - (intOf i).toNat)
 case atStart=>exact⟨0,Nat.zero_le _,rfl,X1.out,X2.out,L0.out⟩
 case round=>
  obtain⟨k,hk,rfl,hx1,hx2,hlo⟩:=hrel;have Y1:=Lib.hid hx1;have Y2:=Lib.hid hx2;have LO:=Lib.hid hlo;have c0:=hx1.cell 3;have d0:=hx2.cell 3;have hl1:=hx1.lt;have hl2:=hx2.lt;clear hx1 hx2 hlo;by_cases hlt:k<a.length
  · obtain⟨x,hk1⟩:∃x,a[k]? =some x:=⟨_,List.getElem?_eq_getElem hlt⟩
    obtain⟨y,hk2⟩:∃y,b[k]? =some y:=⟨_,List.getElem?_eq_getElem (by have:=HLN.out;omega)⟩
    obtain⟨hxy1,hxy2⟩:=HAB.out.at_ hk1 hk2;obtain⟨ad,rfl,hadb,y0,y1,y2⟩:=(HR1.out.below LO.out).note hk1;obtain⟨be,rfl,hbdb,z0,z1,z2⟩:=(HR2.out.below LO.out).note hk2;have hbl:ad.block<wr.heap.size:=Nat.lt_of_lt_of_le hadb LO.out.size;have hbl2:be.block<wr.heap.size:=Nat.lt_of_lt_of_le hbdb LO.out.size;rw [←hxy1] at z0;rw [←hxy2] at z1;clear hk1 hk2 hxy1 hxy2;have HS:Hid (∀wx,Below wr.heap.size wr wx→wx.cell? ⟨w.heap.size,3,none⟩=some (.slice (some ad) a.length c1)∧wx.cell? ⟨w.heap.size+1,3,none⟩=some (.slice (some be) a.length c2)∧wx.cell? (ad.add (k*3))=some (.string (B x.name))∧wx.cell? ⟨(ad.add (k*3)).block,(ad.add (k*3)).off+1,none⟩=some (.string (B x.text))∧wx.cell? ⟨(ad.add (k*3)).block,(ad.add (k*3)).off+2,none⟩=some (.int .i64 x.set)∧wx.cell? (be.add (k*3))=some (.string (B x.name))∧wx.cell? ⟨(be.add (k*3)).block,(be.add (k*3)).off+1,none⟩=some (.string (B x.text))∧wx.cell? ⟨(be.add (k*3)).block,(be.add (k*3)).off+2,none⟩=some (.int .i64 y.set)):=Lib.hid fun wx hb=>⟨(hb.cell (p:=⟨w.heap.size,3,none⟩) hl1).trans c0,(hb.cell (p:=⟨w.heap.size+1,3,none⟩) hl2).trans d0,(hb.cell (p:=ad.add (k*3)) (by show(ad.add (k*3)).block<_;rw [Z3];exact hbl)).trans y0,(hb.cell (p:=⟨(ad.add (k*3)).block,(ad.add (k*3)).off+1,none⟩) (by show(ad.add (k*3)).block<_;rw [Z3];exact hbl)).trans y1,(hb.cell (p:=⟨(ad.add (k*3)).block,(ad.add (k*3)).off+2,none⟩) (by show(ad.add (k*3)).block<_;rw [Z3];exact hbl)).trans y2,(hb.cell (p:=be.add (k*3)) (by show(be.add (k*3)).block<_;rw [Z3];exact hbl2)).trans z0,(hb.cell (p:=⟨(be.add (k*3)).block,(be.add (k*3)).off+1,none⟩) (by show(be.add (k*3)).block<_;rw [Z3];exact hbl2)).trans z1,(hb.cell (p:=⟨(be.add (k*3)).block,(be.add (k*3)).off+2,none⟩) (by show(be.add (k*3)).block<_;rw [Z3];exact hbl2)).trans z2⟩
    go_upto_region 8 with fail
    go_cut [8,9] (fun s8 s9 wx=>∃P Q:Nat,s8= .pointer (some ⟨P,0,none⟩)∧s9= .pointer (some ⟨Q,0,none⟩)∧P≠Q∧wr.heap.size≤P∧wr.heap.size≤Q∧Bx wx P #[.string (B x.name),.string (B x.text),.int .i64 x.set] 63∧Bx wx Q #[.string (B x.name),.string (B x.text),.int .i64 y.set] 63∧Below wr.heap.size wr wx)
    case first=>
     have BD:=Lib.hid (below_drewN (Below.refl wr.heap.size wr) 1);have BE:=Lib.hid (BD.out.alloc (Nat.le_refl _) (.cells #[.string ⟨#[]⟩,.string ⟨#[]⟩,.int .i64 0] 63));have BF:=Lib.hid (BE.out.alloc (B:=wr.heap.size) (by rw [World.size_alloc];exact Nat.le_succ _) (.cells #[.string ⟨#[]⟩,.string ⟨#[]⟩,.int .i64 0] 63));have Z1:Hid (Bx (((wr.drewN 1).alloc (.cells #[.string ⟨#[]⟩,.string ⟨#[]⟩,.int .i64 0] 63)).alloc (.cells #[.string ⟨#[]⟩,.string ⟨#[]⟩,.int .i64 0] 63)) wr.heap.size #[.string ⟨#[]⟩,.string ⟨#[]⟩,.int .i64 0] 63):=Lib.hid ((Bx.new (wr.drewN 1) _ _).alloc _);have Z2:Hid (Bx (((wr.drewN 1).alloc (.cells #[.string ⟨#[]⟩,.string ⟨#[]⟩,.int .i64 0] 63)).alloc (.cells #[.string ⟨#[]⟩,.string ⟨#[]⟩,.int .i64 0] 63)) (wr.heap.size+1) #[.string ⟨#[]⟩,.string ⟨#[]⟩,.int .i64 0] 63):=Lib.hid (by have:=Bx.new ((wr.drewN 1).alloc (.cells #[.string ⟨#[]⟩,.string ⟨#[]⟩,.int .i64 0] 63)) #[.string ⟨#[]⟩,.string ⟨#[]⟩,.int .i64 0] 63;rw [World.size_alloc] at this;exact this);refine ZeT (fun w'=>w'.cell? ⟨w.heap.size,3,none⟩=some (.slice (some ad) a.length c1)∧w'.cell? ⟨w.heap.size+1,3,none⟩=some (.slice (some be) a.length c2)∧w'.cell? (ad.add (k*3))=some (.string (B x.name))∧w'.cell? ⟨(ad.add (k*3)).block,(ad.add (k*3)).off+1,none⟩=some (.string (B x.text))∧w'.cell? ⟨(ad.add (k*3)).block,(ad.add (k*3)).off+2,none⟩=some (.int .i64 x.set)∧w'.cell? (be.add (k*3))=some (.string (B x.name))∧w'.cell? ⟨(be.add (k*3)).block,(be.add (k*3)).off+1,none⟩=some (.string (B x.text))∧w'.cell? ⟨(be.add (k*3)).block,(be.add (k*3)).off+2,none⟩=some (.int .i64 y.set)) (.one 0 true (.one 1 true (.one 2 true (.one 3 true (.one 4 true (.one 5 true (.one 6 true (.one 7 true (.one 8 true (.one 9 true (.two 10 11 (.one 11 false (.one 12 false (.one 13 false .nil))) (.one 10 false (.one 12 false (.one 13 false .nil)))))))))))))) (by kernel_rfl) (by kernel_rfl) (by kernel_rfl) (Nat.le_of_ble_eq_true rfl) (fun _ _ d _ _ h=>by cases d<;>exact h) (HS.out _ BD.out) ?_
     iterate 10 (refine' ZH rfl (by rfl) _ (fun w' hSw=>_) _;rotate_left;(obtain⟨s0,s1,s2,s3,s4,s5,s6,s7⟩:=hSw;go_simp;try with_reducible rfl);try simp only [Act.put,List.setIfInBounds_toArray,List.set_cons_zero,List.set_cons_succ])
     refine ZfX (ZJ rfl (by rfl) (fun KK hKK=> ?_)) (ZJ rfl (by rfl) (fun KK hKK=> ?_))
     · go_simp
       go_wp2_with fail
       refine hKK.out _ _ (HS.out _ BE.out) ?_;clear hKK KK
       try simp only [Act.put,List.setIfInBounds_toArray,List.set_cons_zero,List.set_cons_succ]
       refine Zal (ZJ rfl (by rfl) (fun KK hKK=> ?_))
       go_simp
       go_wp2_with fail
       refine hKK.out _ _ (HS.out _ BF.out) ?_;clear hKK KK
       try simp only [Act.put,List.setIfInBounds_toArray,List.set_cons_zero,List.set_cons_succ]
       refine Zal (ZJ rfl (by rfl) (fun KK hKK=> ?_));refine wp_store_row 63 _ _ rfl wr.heap.size #[.string (B x.name),.string (B x.text),.int .i64 x.set] rfl rfl 63 _ Z1.out (by kernel_rfl) rfl (ZfR _ _ _) ?_;have R1:=Lib.hid (Z1.out.row #[.string (B x.name),.string (B x.text),.int .i64 x.set]);have R2:=Lib.hid (Z2.out.rowO (show(wr.heap.size+1)≠wr.heap.size by omega) #[.string (B x.name),.string (B x.text),.int .i64 x.set]);have BG:=Lib.hid (Zef BF.out (show wr.heap.size≤wr.heap.size by omega) #[.string (B x.name),.string (B x.text),.int .i64 x.set]);refine hKK.out _ _ (HS.out _ BG.out) ?_;clear hKK KK
       try simp only [Act.put,List.setIfInBounds_toArray,List.set_cons_zero,List.set_cons_succ]
       refine Zal (ZJ rfl (by rfl) (fun KK hKK=> ?_));refine wp_store_row 63 _ _ rfl (wr.heap.size+1) #[.string (B x.name),.string (B x.text),.int .i64 y.set] rfl rfl 63 _ R2.out (by kernel_rfl) rfl (ZfR _ _ _) ?_;have R3:=Lib.hid (R1.out.rowO (show wr.heap.size≠(wr.heap.size+1) by omega) #[.string (B x.name),.string (B x.text),.int .i64 y.set]);have R4:=Lib.hid (R2.out.row #[.string (B x.name),.string (B x.text),.int .i64 y.set]);have BH:=Lib.hid (Zef BG.out (show wr.heap.size≤(wr.heap.size+1) by omega) #[.string (B x.name),.string (B x.text),.int .i64 y.set]);refine hKK.out _ _ (HS.out _ BH.out) ?_;clear hKK KK
       try simp only [Act.put,List.setIfInBounds_toArray,List.set_cons_zero,List.set_cons_succ]
       refine Zcv ?_;go_wp2_with fail
       go_meet
       exact⟨_,_,rfl,rfl,by omega,by omega,by omega,R3.out,R4.out,BH.out⟩
     · go_simp
       go_wp2_with fail
       refine hKK.out _ _ (HS.out _ BE.out) ?_;clear hKK KK
       try simp only [Act.put,List.setIfInBounds_toArray,List.set_cons_zero,List.set_cons_succ]
       refine Zal (ZJ rfl (by rfl) (fun KK hKK=> ?_))
       go_simp
       go_wp2_with fail
       refine hKK.out _ _ (HS.out _ BF.out) ?_;clear hKK KK
       try simp only [Act.put,List.setIfInBounds_toArray,List.set_cons_zero,List.set_cons_succ]
       refine Zal (ZJ rfl (by rfl) (fun KK hKK=> ?_));refine wp_store_row 63 _ _ rfl (wr.heap.size+1) #[.string (B x.name),.string (B x.text),.int .i64 x.set] rfl rfl 63 _ Z2.out (by kernel_rfl) rfl (ZfR _ _ _) ?_;have R1:=Lib.hid (Z2.out.row #[.string (B x.name),.string (B x.text),.int .i64 x.set]);have R2:=Lib.hid (Z1.out.rowO (show wr.heap.size≠(wr.heap.size+1) by omega) #[.string (B x.name),.string (B x.text),.int .i64 x.set]);have BG:=Lib.hid (Zef BF.out (show wr.heap.size≤(wr.heap.size+1) by omega) #[.string (B x.name),.string (B x.text),.int .i64 x.set]);refine hKK.out _ _ (HS.out _ BG.out) ?_;clear hKK KK
       try simp only [Act.put,List.setIfInBounds_toArray,List.set_cons_zero,List.set_cons_succ]
       refine Zal (ZJ rfl (by rfl) (fun KK hKK=> ?_));refine wp_store_row 63 _ _ rfl wr.heap.size #[.string (B x.name),.string (B x.text),.int .i64 y.set] rfl rfl 63 _ R2.out (by kernel_rfl) rfl (ZfR _ _ _) ?_;have R3:=Lib.hid (R1.out.rowO (show(wr.heap.size+1)≠wr.heap.size by omega) #[.string (B x.name),.string (B x.text),.int .i64 y.set]);have R4:=Lib.hid (R2.out.row #[.string (B x.name),.string (B x.text),.int .i64 y.set]);have BH:=Lib.hid (Zef BG.out (show wr.heap.size≤wr.heap.size by omega) #[.string (B x.name),.string (B x.text),.int .i64 y.set]);refine hKK.out _ _ (HS.out _ BH.out) ?_;clear hKK KK
       try simp only [Act.put,List.setIfInBounds_toArray,List.set_cons_zero,List.set_cons_succ]
       refine Zcv ?_;go_wp2_with fail
       go_meet
       exact⟨_,_,rfl,rfl,by omega,by omega,by omega,R3.out,R4.out,BH.out⟩
    obtain⟨P,Q,rfl,rfl,hPQ,hP,hQ,hb1,hb2,hb3⟩:=hcut;have X8:=Lib.hid hb1;have X9:=Lib.hid hb2;have B3:=Lib.hid hb3;have p0:=hb1.cell 0;have p1:=hb1.cell 1;have p2:=hb1.cell 2;have pf:=hb1.free 2;have pl:=hb1.lt;have q0:=hb2.cell 0;have q1:=hb2.cell 1;have q2:=hb2.cell 2;have qf:=hb2.free 2;have ql:=hb2.lt;clear hb1 hb2 hb3 y0 y1 y2 z0 z1 z2 c0 d0;go_upto_region 11 with fail
    have W1:=Lib.hid ((X8.out.put 2 (.int .i64 0)).set (k:=Q) hPQ 2 (.int .i64 0));have W2:=Lib.hid ((X9.out.set (k:=P) (fun h=>hPQ h.symm) 2 (.int .i64 0)).put 2 (.int .i64 0));have W3:=Lib.hid ((B3.out.setCell (p:=⟨P,2,none⟩) hP (.int .i64 0)).setCell (p:=⟨Q,2,none⟩) hQ (.int .i64 0));clear p0 p1 p2 pf q0 q1 q2 qf;generalize (wc.setCell ⟨P,2,none⟩ (.int .i64 0)).setCell ⟨Q,2,none⟩ (.int .i64 0)=W9 at*;have p0:=W1.out.cell 0;have p1:=W1.out.cell 1;have p2:=W1.out.cell 2;have q0:=W2.out.cell 0;have q1:=W2.out.cell 1;have q2:=W2.out.cell 2;go_wp2_with fail
    go_roundw
    case rel=>exact⟨k+1,by omega,by go_num,Y1.out.same6 W3.out hl1,Y2.out.same6 W3.out hl2,LO.out.trans (W3.out.mono LO.out.size)⟩
    case measure=>simp [intOf];omega
  · obtain rfl:k=a.length:=by omega
    go_wp2_with fail
    go_ret
    exact⟨rfl,LO.out⟩
section
variable {ops:Array Oper} {rest:List Oper} {o:Oper} {a:Act} {Q:Exit→Act→World→Prop}
theorem Zfh (hgd:o.guard=none)(s x:Operand)(ho:o.op= .call {callee:= .builtin .append,args:=#[s,x],argTypes:=#[77,77]}) (base:Nat) (v:Value) (L ys:List (List UInt8)) (hs:a.eval s=v) (W:World) (cs:Array Value) (hcs:cs=(ys.map sV).toArray) (n:Nat) (hyn:ys.length=n) (hy:1≤n) (hy2:n≤1000)
 (hown:W.ownsRow base 9 1 v L.length (L.map sV)) (hbase:base≤W.heap.size) (hlen:L.length≤16777216) (hx:a.eval x= .slice (some ⟨W.heap.size,0,none⟩) n n)
 (h:∀v' w',Hid (w'.ownsRow base 9 1 v' (L++ys).length ((L++ys).map sV))→Below base W w'→W.grownBy w' v.ownBlock→wpList Tryz.prog ops Q rest (a.put o.dst v') w'):
 wpList Tryz.prog ops Q (o::rest) a (W.alloc (.cells cs 9)):=by
 obtain⟨i0,hi,iz0,iz1,iz2⟩:=info_parts Zic;subst hcs hyn;refine wpList_append_own _ hgd s x 77 ho base 9 i0 _ 1 16 Tryz.underlying77 hi iz0 iz1 iz2 rfl (by decide) v L.length _ hs (hown.alloc _) ⟨W.heap.size,0,none⟩ ys.length ys.length (ys.map sV) hx (by simp) (Zdl W (ys.map sV) _) ?_ (by unfold maxLen;omega) (by omega) (by simp;omega) ?_
 · intro u hu;obtain⟨y,_,rfl⟩:=List.mem_map.1 hu;rfl
 · intro v6 w6 hown6 hg6 _;refine h v6 w6 (Lib.hid ?_) (Zad ((Below.refl _ W).alloc hbase _) (hown.alloc _) hg6 (by simp;omega) (Nat.le_refl _)) ⟨hg6.os,hg6.tape,hg6.output,by have:=hg6.size;simp at this;omega,fun k hk hc=>(hg6.block k (by simp;omega) hc).trans (Below.heap_alloc _ _ _ hk)⟩;rw [List.length_append,List.map_append];exact hown6
theorem ZpF {o:Oper} {a:Act} {K:Act→World→Prop} {Q:Exit→Act→World→Prop} (s x:Operand)(ho:o.op= .call {callee:= .builtin .append,args:=#[s,x],argTypes:=#[77,77]}) (base:Nat) (v:Value) (L ys:List (List UInt8)) (hs:a.eval s=v) (W:World) (cs:Array Value) (hcs:cs=(ys.map sV).toArray) (n:Nat) (hyn:ys.length=n) (hy:1≤n) (hy2:n≤1000)
 (hown:W.ownsRow base 9 1 v L.length (L.map sV)) (hbase:base≤W.heap.size) (hlen:L.length≤16777216) (hx:a.eval x= .slice (some ⟨W.heap.size,0,none⟩) n n)
 (h:∀v' w',Hid (w'.ownsRow base 9 1 v' (L++ys).length ((L++ys).map sV))→Below base W w'→W.grownBy w' v.ownBlock→K (a.put o.dst v') w'):
 o.wp Tryz.prog a (W.alloc (.cells cs 9)) K Q:=by
 obtain⟨i0,hi,iz0,iz1,iz2⟩:=info_parts Zic;subst hcs hyn;refine wp_append_own _ s x 77 ho base 9 i0 _ 1 16 Tryz.underlying77 hi iz0 iz1 iz2 rfl (by decide) v L.length _ hs (hown.alloc _) ⟨W.heap.size,0,none⟩ ys.length ys.length (ys.map sV) hx (by simp) (Zdl W (ys.map sV) _) ?_ (by unfold maxLen;omega) (by omega) (by simp;omega) ?_
 · intro u hu;obtain⟨y,_,rfl⟩:=List.mem_map.1 hu;rfl
 · intro v6 w6 hown6 hg6 _;refine h v6 w6 (Lib.hid ?_) (Zad ((Below.refl _ W).alloc hbase _) (hown.alloc _) hg6 (by simp;omega) (Nat.le_refl _)) ⟨hg6.os,hg6.tape,hg6.output,by have:=hg6.size;simp at this;omega,fun k hk hc=>(hg6.block k (by simp;omega) hc).trans (Below.heap_alloc _ _ _ hk)⟩;rw [List.length_append,List.map_append];exact hown6
end
theorem OwS.dn {w0 w:World} {v:Value} {l:List (List UInt8)} (h:OwS w0 w v l)(n:Nat):OwS w0 (w.drewN n) v l:=OwS.below h (below_drewN (Below.refl _ _) n)
def Zdg (n:Nx):List (List UInt8):=[ZA (n.name.length+1+n.text.length) 4,n.name,[61],n.text]
def Zcu (v:List UInt8)(nn:Nat)(ns:List Nx):List (List UInt8):=[ZA v.length 4,v,ZA nn 4]++ns.flatMap Zdg
theorem ZlH:∀ns:List Nx,(ns.flatMap Zdg).flatten=((ns.map Nx.nt).map Zbv).flatten
 |[]=>rfl
 |n::r=>by
  rw [List.flatMap_cons,List.flatten_append,ZlH r,List.map_cons,List.map_cons,List.flatten_cons];congr 1
  show([ZA (n.name.length+1+n.text.length) 4,n.name,[61],n.text]:List (List UInt8)).flatten=sizedB (n.name++61::n.text)
  unfold sizedB;rw [List.length_append,List.length_cons,show n.name.length+(n.text.length+1)=n.name.length+1+n.text.length by omega];simp
theorem Zsg (framed:Bool)(v:List UInt8)(ns:List Nx):(Zcu v ns.length ns++if framed then [[1]] else []).flatten=ZT framed (bkX v ns):=by
 unfold Zcu ZT sizedB;rw [List.flatten_append,List.flatten_append,ZlH];show _=(ZA v.length 4++v)++(ZA (ns.map Nx.nt).length 4++(((ns.map Nx.nt).map Zbv).flatten++_))
 rw [List.length_map];cases framed<;>simp
theorem Zsh (v:List UInt8)(nn:Nat)(ns:List Nx)(k:Nat)(n:Nx)(h:ns[k]? =some n):Zcu v nn (ns.take (k+1))=Zcu v nn (ns.take k)++Zdg n:=by
 unfold Zcu;rw [ZdW h,List.flatMap_append,List.append_assoc];simp
theorem ZkQ:∀ns:List Nx,(ns.flatMap Zdg).length=4*ns.length
 |[]=>rfl
 |n::r=>by rw [List.flatMap_cons,List.length_append,ZkQ r,List.length_cons];show 4+_=_;omega
def CpV (w:World)(r:Option (List UInt8))(e:Ending)(w':World):Prop:=Below w.heap.size w w'∧match r with
 |none=>∃n a:Int,1≤n∧e= .returned (.tuple #[.string ⟨#[]⟩,.agg #[.int .i64 n,.int .i64 a]])
 |some b=>e= .returned (.tuple #[.string (B b),.agg #[.int .i64 0,.int .i64 0]])
def cpR (framed:Bool)(v:List UInt8)(ns:List Nx):Option (List UInt8):=if ckC v ns then some (ZT framed (bkX v ns)) else none
theorem CcSt.keep2 {w0 w:World} {v:List UInt8} {vs:Int} {sl:Value} (h:CcSt w0 w v vs sl):w.cell? ⟨w0.heap.size,0,none⟩=some (.string (B v))∧w.cell? ⟨w0.heap.size,2,none⟩=some sl:=⟨h.bb.cell 0,h.bb.cell 2⟩
def CpRel (w0:World)(v:List UInt8)(vs:Int)(sl:Value)(ns:List Nx)(vl i:Value)(wx:World):Prop:=∃k:Nat,k≤ns.length∧i= .int .i64 k∧CcSt w0 wx v vs sl∧OwS w0 wx vl (Zcu v ns.length (ns.take k))
theorem ZnM (framed:Bool)(v:List UInt8)(vs:Int)(A:Option Addr)(c:Nat)(ns:List Nx)(hv:v.length≤100000)(hn:∀n∈ns,n.name.length≤100000∧n.text.length≤100000)(hsum:(ZT framed (bkX v ns)).length≤1000000000)(w:World)(hG:Grd w)(h:RdN 3 nxV w w.heap.size A ns):
 Calls Tryz.prog 18 #[.agg #[.string (B v),.int .i64 vs,.slice A ns.length c],.bool framed] w (CpV w (cpR framed v ns)):=by
 have hck:∀wx,Below w.heap.size w wx→Calls Tryz.prog 31 #[.agg #[.string (B v),.int .i64 vs,.slice A ns.length c]] wx (CkV wx (ckC v ns)):=fun wx hb=>ZiO v vs A c ns hv hn wx (hG.below hb) ((h.below hb).more hb.size);have ST0:=Lib.hid (CcSt.mk0 w v vs (.slice A ns.length c));have hbf:=fun(n a:Int) (h:1≤n) w=>ZcB n a (by omega) w;have hbt:=fun w=>ZaG 0 0 rfl w;obtain⟨⟨c0,c1,c2⟩,⟨r0,r1⟩,rf,l1,l2⟩:=ST0.out.cells;have HR:=Lib.hid h;have HN:=Lib.hid hn;unfold cpR;clear h hn hG;cases hb:ckC v ns with
 |false=>
  rw [hb] at hck;unfold CkV at hck;have HPf:Hid (∀(n a:Int) w',1≤n→Below w.heap.size w w'→CpV w none (.returned (.tuple #[.string ⟨#[]⟩,.agg #[.int .i64 n,.int .i64 a]])) w'):=Lib.hid fun n a w' h1 hb=>⟨hb,n,a,h1,rfl⟩
  show Calls _ _ _ _ (CpV w none)
  generalize CpV w none=P at*;clear hb hsum HR HN hbt;go_enter Tryz.func18,Tryz.ntmps18
  go_upto_region 3 with(first
   |(go_at_call 31;refine(hck _ ST0.out.low).mono ?_;rintro e w1 ⟨n,a,rfl,h1,hb1⟩;have ST1:=Lib.hid (ST0.out.below hb1);clear hb1 hck;have H1:1≤n:=h1;clear h1)
   |(go_at_call 8;refine(hbf _ _ H1 _).mono ?_;rintro e w2 ⟨rfl,hb2⟩;have NB:=Lib.hid ((Bx.new w1 #[.int .i64 n,.int .i64 a] 39).below hb2);have z0:=NB.out.cell 0;have z1:=NB.out.cell 1;have ST2:=Lib.hid ((ST1.out.alloc _).below hb2);clear hb2 c0 c1 c2 r0 r1 rf l1 l2;obtain⟨⟨c0,c1,c2⟩,⟨r0,r1⟩,rf,l1,l2⟩:=ST2.out.cells))
  go_region
  all_goals
   go_wp2_with fail
   have F:=CcSt.fin ST2.out (.int .i64 n) (.int .i64 a);refine bodyPost_ret (ZeB rfl _ _ (w.heap.size+1) _ _ _ _ _ rfl rfl F.1 Tryz.underlying39 rfl (by kernel_rfl)) rfl ?_;exact HPf.out n a _ H1 F.2.drew
 |true=>
  rw [hb] at hck;unfold CkV at hck;have HC:Hid (ckC v ns=true):=Lib.hid hb;have hn4:ns.length≤4096:=by
   unfold ckC at hb;simp only [Bool.and_eq_true,decide_eq_true_eq] at hb;exact hb.2.2
  have HF:=Lib.hid (Zsg framed v ns);have HPt:Hid (∀w',Below w.heap.size w w'→CpV w (some (ZT framed (bkX v ns))) (.returned (.tuple #[.string (B (ZT framed (bkX v ns))),.agg #[.int .i64 0,.int .i64 0]])) w'):=Lib.hid fun w' hb=>⟨hb,rfl⟩
  show Calls _ _ _ _ (CpV w (some (ZT framed (bkX v ns))))
  generalize CpV w (some (ZT framed (bkX v ns)))=P at*;generalize ZT framed (bkX v ns)=PB at*;have hnv:=fun w=>Zgu v.length (by omega) w;have hnn:=fun w=>Zgu ns.length (by omega) w;have hsv:=Zt v;clear hb hbf;go_enter Tryz.func18,Tryz.ntmps18
  go_upto_region 4 with(first
   |(go_at_call 31;refine(hck _ ST0.out.low).mono ?_;rintro e w1 ⟨n,a,rfl,h1,hb1⟩;obtain⟨rfl,rfl⟩:n=0∧a=0:=h1;have ST1:=Lib.hid (ST0.out.below hb1);clear hb1 hck)
   |(go_at_call 8;refine(hbt _).mono ?_;rintro e w2 ⟨rfl,hb2⟩;have ST2:=Lib.hid ((ST1.out.alloc _).below hb2);clear hb2 c0 c1 c2 r0 r1 rf l1 l2;obtain⟨⟨c0,c1,c2⟩,⟨r0,r1⟩,rf,l1,l2⟩:=ST2.out.cells))
  go_cut [7] (fun s7 wx=>CcSt w wx v vs (.slice A ns.length c)∧OwS w wx s7 [ZA v.length 4,v,ZA ns.length 4])
  case first=>
   go_region_held3 (fun w'=>w'.cell? ⟨w.heap.size,0,none⟩=some (.string (B v))∧w'.cell? ⟨w.heap.size,2,none⟩=some (.slice A ns.length c))
    (first|with_reducible exact CcSt.keep2 SB2.out|with_reducible exact CcSt.keep2 SB1.out|with_reducible exact CcSt.keep2 (SB2.out.alloc _)|exact CcSt.keep2 (ST2.out.drewN 1))
    (first|(go_at_call 32;(first|((with_reducible refine(hnv _).mono ?_);rintro e wb ⟨rfl,hbb⟩)|((with_reducible refine(hnn _).mono ?_);rintro e wb ⟨rfl,hbb⟩));first|(have SB1:=Lib.hid ((ST2.out.drewN _).below hbb))|(have SB2:=Lib.hid (SB1.out.below hbb))))
   all_goals
    go_wp2_with fail
    go_meet
    exact⟨SB2.out.alloc _,World.ownsRow_lit (base:=w.heap.size+2) (e:=9) (size:=1) _ #[.string (B (ZA v.length 4)),.string (B v),.string (B (ZA ns.length 4))] 3 (by have:=SB2.out.res.lt;omega) (by decide) rfl⟩
  have STa:=Lib.hid hcut.1;have OWa:=Lib.hid hcut.2;clear hcut c0 c1 c2 r0 r1 rf l1 l2;obtain⟨⟨c0,c1,c2⟩,⟨r0,r1⟩,rf,l1,l2⟩:=STa.out.cells;go_wp2_with fail
  go_loopw [7,31] (fun vl i wx=>CpRel w v vs (.slice A ns.length c) ns vl i wx) (fun _ i _=>ns.length - (intOf i).toNat)
  case atStart=>exact⟨0,Nat.zero_le _,rfl,STa.out,OWa.out⟩
  case round=>
   obtain⟨k,hk,rfl,hst,how⟩:=hrel;obtain⟨L,hL⟩:∃L,L=Zcu v ns.length (ns.take k):=⟨_,rfl⟩
   rw [←hL] at how;obtain⟨_,A4,c4,hv4,hc4⟩:=ZcP how;subst hv4;have ST:=Lib.hid hst;have OW:=Lib.hid how;clear hst how c0 c1 c2 r0 r1 rf l1 l2;obtain⟨⟨c0,c1,c2⟩,⟨r0,r1⟩,rf,l1,l2⟩:=ST.out.cells;have hpl:L.length≤100000:=by
    rw [hL];unfold Zcu;rw [List.length_append,ZkQ,List.length_take];show 3+_≤_
    omega
   have HLe:=Lib.hid hL;clear hL;by_cases hlt:k<ns.length
   · obtain⟨n,hk1⟩:∃n,ns[k]? =some n:=⟨_,List.getElem?_eq_getElem hlt⟩
     obtain⟨hn1,hn2⟩:=HN.out n (List.mem_of_getElem? hk1);obtain⟨ad,rfl,hadb,y0,y1,y2⟩:=(HR.out.below ST.out.low).note hk1;have hbl:ad.block<wr.heap.size:=Nat.lt_of_lt_of_le hadb ST.out.low.size;have hsn:=Zt n.name;have hst:=Zt n.text;have hnm:=fun w=>Zgu (n.name.length+1+n.text.length) (by omega) w;have hq1:IntKind.i64.wrap ((n.name.length:Int)+1)=(n.name.length:Int)+1:=by rw [IntKind.wrap_i64];omega
     have hq2:IntKind.i64.wrap ((n.name.length:Int)+1+n.text.length)=((n.name.length+1+n.text.length:Nat):Int):=by rw [IntKind.wrap_i64];omega
     have HS:Hid (Zcu v ns.length (ns.take (k+1))=L++Zdg n):=Lib.hid (by rw [Zsh v ns.length ns k n hk1,HLe.out]);have hnp:Zdg n=[ZA (n.name.length+1+n.text.length) 4,n.name,[61],n.text]:=rfl;have HNP:=Lib.hid hnp;clear hk1 hnp;clear HLe;go_upto_region 8 with fail
     have NB:Hid (Bx (wr.alloc (.cells #[.string (B n.name),.string (B n.text),.int .i64 n.set] 93)) wr.heap.size #[.string (B n.name),.string (B n.text),.int .i64 n.set] 93):=Lib.hid (Bx.new _ _ _);have ST1:=Lib.hid (ST.out.alloc (.cells #[.string (B n.name),.string (B n.text),.int .i64 n.set] 93));have OW1:=Lib.hid (OwS.below OW.out ((Below.refl _ wr).alloc (Nat.le_refl _) (.cells #[.string (B n.name),.string (B n.text),.int .i64 n.set] 93)));have HNE:Hid ((Value.slice A4 L.length c4).ownBlock≠some wr.heap.size):=Lib.hid fun e=>by have:=(World.ownsRow.lt OW.out _ e).2;omega
     clear y0 y1 y2;refine ZcX (fun w'=>w'.cell? ⟨wr.heap.size,0,none⟩=some (.string (B n.name))∧w'.cell? ⟨wr.heap.size,1,none⟩=some (.string (B n.text))) [(0,true),(1,true),(2,true),(3,true),(4,true),(5,true),(6,true),(7,true),(8,true),(9,true),(11,true),(12,true),(13,true),(14,true),(15,true),(10,false),(16,false),(17,false),(18,true)] (by kernel_rfl) (by kernel_rfl) (by kernel_rfl) (Nat.le_of_ble_eq_true rfl) (fun _ _ d _ _ h=>by cases d<;>exact h) ⟨NB.out.cell 0,NB.out.cell 1⟩ ?_
     iterate 15 (refine' Zaj rfl (by rfl) _ (fun w' hSw=>_) _;rotate_left;(obtain⟨s0,s1⟩:=hSw;go_simp;try with_reducible rfl);try simp only [Act.put,List.setIfInBounds_toArray,List.set_cons_zero,List.set_cons_succ])
     refine ZaM rfl (by rfl) (fun KK hKK=> ?_)
     go_simp
     go_at_call 32
     refine(hnm _).mono ?_;rintro e wb ⟨rfl,hbb⟩;have NB2:=Lib.hid (Bx.below (Bx.dn NB.out 1) hbb);have ST2:=Lib.hid ((ST1.out.drewN 1).below hbb);have OW2:=Lib.hid (OwS.below (OwS.dn OW1.out 1) hbb);clear hbb;go_wp2_with fail
     refine hKK.out _ _ ⟨NB2.out.cell 0,NB2.out.cell 1⟩ ?_;clear hKK KK
     try simp only [Act.put,List.setIfInBounds_toArray,List.set_cons_zero,List.set_cons_succ]
     refine ZaM rfl (by rfl) (fun KK hKK=> ?_)
     go_simp
     go_wp2_with fail
     refine hKK.out _ _ ⟨(NB2.out.alloc _).cell 0,(NB2.out.alloc _).cell 1⟩ ?_;clear hKK KK
     try simp only [Act.put,List.setIfInBounds_toArray,List.set_cons_zero,List.set_cons_succ]
     refine ZaM rfl (by rfl) (fun KK hKK=> ?_);refine ZpF _ _ rfl (w.heap.size+2) (.slice A4 L.length c4) L (Zdg n) rfl wb _ (by rw [HNP.out];rfl) 4 rfl (by omega) (by omega) OW2.out (by have:=ST2.out.res.lt;omega) (by omega) rfl ?_;intro v6 w9 HO6 hb6 hg6;have NB3:Hid (Bx w9 wr.heap.size #[.string (B n.name),.string (B n.text),.int .i64 n.set] 93):=Lib.hid ((hg6.block _ NB2.out.lt (fun e=>HNE.out e.symm)).trans NB2.out);have SX:=Lib.hid (ST2.out.low2 hb6);clear hb6 hg6;refine hKK.out _ _ ⟨NB3.out.cell 0,NB3.out.cell 1⟩ ?_;clear hKK KK
     try simp only [Act.put,List.setIfInBounds_toArray,List.set_cons_zero,List.set_cons_succ]
     refine' Zaj rfl (by rfl) _ (fun w' hSw=>_) _
     rotate_left
     · go_simp
       try with_reducible rfl
     try simp only [Act.put,List.setIfInBounds_toArray,List.set_cons_zero,List.set_cons_succ]
     refine ZcK ?_;go_wp2_with fail
     go_roundw
     case rel=>exact⟨k+1,by omega,by go_num,SX.out,by rw [HS.out];exact HO6.out⟩
     case measure=>simp [intOf];omega
   · obtain rfl:k=ns.length:=by omega
     have hLe:=HLe.out;rw [List.take_length] at hLe;have HLf:=Lib.hid hLe;clear HLe hLe;have HSm:=Lib.hid hsum;have Hpl:=Lib.hid hpl;clear hnv hnn hsum;cases framed with
     |false=>
      have hfl:L.flatten=PB:=by have:=HF.out;rw [←HLf.out] at this;simpa using this
      have hj:∀wx,OwS w wx (.slice A4 L.length c4) L→Calls Tryz.prog 20 #[.slice A4 L.length c4] wx fun e w'=>e= .returned (.string (B PB))∧Below wx.heap.size wx w':=by
       intro wx h;rw [←hfl];have h1:=HSm.out;have h2:=Hpl.out;exact ZgE h (by rw [hfl];omega) (by omega)
      clear hfl hpl;go_wp2_with (go_at_call 20;refine(hj _ OW.out).mono ?_;rintro e w3 ⟨rfl,hb3⟩;have S3:=Lib.hid (ST.out.below hb3);clear hb3 c0 c1 c2 r0 r1 rf l1 l2;obtain⟨⟨c0,c1,c2⟩,⟨r0,r1⟩,rf,l1,l2⟩:=S3.out.cells)
      have F:=S3.out.fin (.int .i64 0) (.int .i64 0);refine bodyPost_ret (ZeB rfl _ _ (w.heap.size+1) _ _ _ _ _ rfl rfl F.1 Tryz.underlying39 rfl (by kernel_rfl)) rfl ?_;exact HPt.out _ F.2
     |true=>
      have hfl:(L++[[1]]).flatten=PB:=by have:=HF.out;rw [←HLf.out] at this;simpa using this
      have hj:∀wx v6,OwS w wx v6 (L++[[1]])→Calls Tryz.prog 20 #[v6] wx fun e w'=>e= .returned (.string (B PB))∧Below wx.heap.size wx w':=by
       intro wx v6 h;rw [←hfl];have h1:=HSm.out;have h2:=Hpl.out;exact ZgE h (by rw [hfl];omega) (by rw [List.length_append];simp;omega)
      clear hfl hpl;have hpl:=Hpl.out;go_wp2_with (first
       |(at_builtin;refine ZjO rfl _ _ rfl (w.heap.size+2) (.slice A4 L.length c4) L rfl wr [1] OW.out (by omega) (by omega) rfl ?_;intro v6 w9 HO6 hb6 hg6;have SX:=Lib.hid (ST.out.low2 hb6);clear hb6 hg6 c0 c1 c2 r0 r1 rf l1 l2;obtain⟨⟨c0,c1,c2⟩,⟨r0,r1⟩,rf,l1,l2⟩:=SX.out.cells)
       |(go_at_call 20;refine(hj _ _ HO6.out).mono ?_;rintro e w3 ⟨rfl,hb3⟩;have S3:=Lib.hid (SX.out.below hb3);clear hb3 c0 c1 c2 r0 r1 rf l1 l2;obtain⟨⟨c0,c1,c2⟩,⟨r0,r1⟩,rf,l1,l2⟩:=S3.out.cells))
      have F:=S3.out.fin (.int .i64 0) (.int .i64 0);refine bodyPost_ret (ZeB rfl _ _ (w.heap.size+1) _ _ _ _ _ rfl rfl F.1 Tryz.underlying39 rfl (by kernel_rfl)) rfl ?_;exact HPt.out _ F.2
end Go.Proofs.YtlglfmbccihopaaGreatDoor
