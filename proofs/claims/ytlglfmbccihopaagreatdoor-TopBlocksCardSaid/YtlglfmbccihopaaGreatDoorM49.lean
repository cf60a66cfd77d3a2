/- Lemmas for a statement on the tops; conditions: as each says. -/
import Derived.Test.YtlglfmbccihopaaGreatDoorM37
import Derived.Test.YtlglfmbccihopaaGreatDoorM48
set_option linter.unusedVariables false
set_option linter.unusedSimpArgs false
set_option maxRecDepth 100000
set_option maxHeartbeats 4000000
namespace Go.Proofs.YtlglfmbccihopaaGreatDoor
open Go Go.RowKit
theorem Zeq {P:Program} {l:List Oper} {Q:Exit→Act→World→Prop} {S:World→Prop} {i:Nat} {r:List (Nat×Bool)} {o:Oper} {a:Act} {w:World} (ho:ZaO l i=some o)(hw:Region.wanted o (yielded l.toArray a.tmps)=true)(ty:TypeId)(x:Operand)(hop:o.op= .load ty x)(b off:Nat)(hx:a.eval x= .pointer (some ⟨b,off,none⟩))(cs:List Value)(d:TypeDesc)(hS:∀w,S w→w.rangeAt b off cs)
 (hu:P.underlying ty=some d) (hd:d.isRow=true) (hi:(P.info? ty).map (·.size)=some cs.length) (h:Zbl P l Q S r (a.put o.dst (.agg cs.toArray)) w):Zbl P l Q S ((i,true)::r) a w:=
 ⟨o,_,ho,yieldsIf_load_mid hw ty x hop b off hx cs d hS hu hd hi,h⟩
theorem Bx.range0 {w:World} {g:Nat} {cs:List Value} {T:TypeId} (h:Bx w g cs.toArray T):w.rangeAt g 0 cs:=fun j u hu=>by
 rw [Nat.zero_add,h.cell j];simpa using hu
theorem Bx.mid {w:World} {g o:Nat} {cs:List Value} {C:Array Value} {T:TypeId} (h:Bx w g C T)(hm:∀j u,cs[j]? =some u→C[o+j]? =some u):w.rangeAt g o cs:=fun j u hu=>by
 rw [h.cell (o+j)];exact hm j u hu
theorem tf_mid {T:Array Value} {kd:Int} {a b c d e f:Value} (h:T=TF kd a b c d e f):∀j u,[a,b,c,d,e,f][j]? =some u→T[17+j]? =some u:=by
 subst h;intro j u hu;have hj:j<6:=(List.getElem?_eq_some_iff.1 hu).1
 match j,hj,hu with
 |0,_,hu=>exact hu
 |1,_,hu=>exact hu
 |2,_,hu=>exact hu
 |3,_,hu=>exact hu
 |4,_,hu=>exact hu
 |5,_,hu=>exact hu
structure TbSt (w wx:World)(XA OA:Array Value):Prop where
 x:Bx wx w.heap.size XA 30
 o:Bx wx (w.heap.size+1) OA 33
 low:Below w.heap.size w wx
theorem TbSt.below {w wx wy:World} {XA OA:Array Value} (h:TbSt w wx XA OA)(hb:Below wx.heap.size wx wy):TbSt w wy XA OA:=⟨h.x.below hb,h.o.below hb,h.low.trans (hb.mono h.low.size)⟩
theorem TbSt.putO {w wx:World} {XA OA:Array Value} (h:TbSt w wx XA OA)(j:Nat)(v:Value):TbSt w (wx.setCell ⟨w.heap.size+1,j,none⟩ v) XA (OA.setIfInBounds j v):=
 ⟨h.x.set (by omega) j v,h.o.put j v,h.low.setCell (by show w.heap.size≤w.heap.size+1;omega) v⟩
theorem TbSt.putX {w wx:World} {XA OA:Array Value} (h:TbSt w wx XA OA)(j:Nat)(v:Value):TbSt w (wx.setCell ⟨w.heap.size,j,none⟩ v) (XA.setIfInBounds j v) OA:=
 ⟨h.x.put j v,h.o.set (by omega) j v,h.low.setCell (Nat.le_refl _) v⟩
structure TcSt (w wx:World)(XA OA T:Array Value)(K:Nat)(vl vn:Value)(ms:List Mx)(ns:List Nx):Prop where
 s:TbSt w wx XA OA
 t:Bx wx K T 56
 g:Bx wx (K+1) #[.int .i64 0,.int .i64 0] 39
 m:Zg mxV (w.heap.size+2) wx vl ms
 n:Zg nxV (w.heap.size+2) wx vn ns
 hK:w.heap.size+2≤K
theorem TcSt.below {w wx wy:World} {XA OA T:Array Value} {K:Nat} {vl vn:Value} {ms:List Mx} {ns:List Nx} (h:TcSt w wx XA OA T K vl vn ms ns)(hb:Below wx.heap.size wx wy):TcSt w wy XA OA T K vl vn ms ns:=
 ⟨h.s.below hb,h.t.below hb,h.g.below hb,h.m.below hb,h.n.below hb,h.hK⟩
theorem TcSt.alloc {w wx:World} {XA OA T:Array Value} {K:Nat} {vl vn:Value} {ms:List Mx} {ns:List Nx} (h:TcSt w wx XA OA T K vl vn ms ns)(ob:Obj):TcSt w (wx.alloc ob) XA OA T K vl vn ms ns:=h.below ((Below.refl _ _).alloc (Nat.le_refl _) _)
theorem TcSt.putO {w wx:World} {XA OA T:Array Value} {K:Nat} {vl vn:Value} {ms:List Mx} {ns:List Nx} (h:TcSt w wx XA OA T K vl vn ms ns)(j:Nat)(v:Value):TcSt w (wx.setCell ⟨w.heap.size+1,j,none⟩ v) XA (OA.setIfInBounds j v) T K vl vn ms ns:=
 ⟨h.s.putO j v,h.t.set (by have:=h.hK;omega) j v,h.g.set (by have:=h.hK;omega) j v,h.m.set (by omega) j v,h.n.set (by omega) j v,h.hK⟩
theorem TcSt.putX {w wx:World} {XA OA T:Array Value} {K:Nat} {vl vn:Value} {ms:List Mx} {ns:List Nx} (h:TcSt w wx XA OA T K vl vn ms ns)(j:Nat)(v:Value):TcSt w (wx.setCell ⟨w.heap.size,j,none⟩ v) (XA.setIfInBounds j v) OA T K vl vn ms ns:=
 ⟨h.s.putX j v,h.t.set (by have:=h.hK;omega) j v,h.g.set (by have:=h.hK;omega) j v,h.m.set (by omega) j v,h.n.set (by omega) j v,h.hK⟩
structure TdSt (w wx:World)(XA OA T:Array Value)(K:Nat)(vl vn:Value)(ms:List Mx)(ns:List Nx)(p q:Nat):Prop where
 c:TcSt w wx XA OA T K vl vn ms ns
 fp:Bx wx p #[.int .i64 0,.int .i64 0] 39
 fq:Bx wx q #[.int .i64 0,.int .i64 0] 39
 hp:w.heap.size+2≤p
 hq:w.heap.size+2≤q
theorem TdSt.putX {w wx:World} {XA OA T:Array Value} {K:Nat} {vl vn:Value} {ms:List Mx} {ns:List Nx} {p q:Nat} (h:TdSt w wx XA OA T K vl vn ms ns p q)(j:Nat)(v:Value):TdSt w (wx.setCell ⟨w.heap.size,j,none⟩ v) (XA.setIfInBounds j v) OA T K vl vn ms ns p q:=
 ⟨h.c.putX j v,h.fp.set (by have:=h.hp;omega) j v,h.fq.set (by have:=h.hq;omega) j v,h.hp,h.hq⟩
theorem ZtY (ns:List Nx):ZcE (ns.map Nx.up) ns:=by
 unfold ZcE;rw [List.map_map];rfl
theorem Ztv {T:Array Value} {vl vn:Value} {v s:ByteArray} {st at_:Int} (h:T=TF 3 vl (.string v) (.int .i64 st) vn (.int .i64 at_) (.string s))(h1:∃A n c,vl= .slice A n c)(h2:∃A n c,vn= .slice A n c):T.size=25∧T.all (·.oneCell')=true:=by
 obtain⟨A1,n1,c1,rfl⟩:=h1;obtain⟨A2,n2,c2,rfl⟩:=h2;subst h;exact⟨rfl,Zgi _ _ _ _ _ _ _ ⟨rfl,rfl,rfl,rfl,rfl,rfl⟩⟩
structure T14 (g K p q:Nat)(XA T:Array Value)(w':World):Prop where
 x:Bx w' g XA 30
 t:Bx w' K T 56
 g:Bx w' (K+1) #[.int .i64 0,.int .i64 0] 39
 p:Bx w' p #[.int .i64 0,.int .i64 0] 39
 q:Bx w' q #[.int .i64 0,.int .i64 0] 39
theorem T14.below {g K p q:Nat} {XA T:Array Value} {w w':World} (h:T14 g K p q XA T w)(hb:Below w.heap.size w w'):T14 g K p q XA T w':=
 ⟨h.x.below hb,h.t.below hb,h.g.below hb,h.p.below hb,h.q.below hb⟩
theorem Zpo (ms:List Mx)(v:List UInt8)(vs:Int)(ns:List Nx)(at_:Int)(sound:List UInt8)(A AN:Option Addr)(c cN:Nat)(kd fb bud:Int)(det:Bool)(hm:ms.length≤9223372036854775807)(hn:ns.length≤9223372036854775807)(w:World)(hG:Ev.Gl w)(hw:Wk w)(h:RdN 2 mxV w w.heap.size A ms)(h2:RdN 3 nxV w w.heap.size AN ns):
 Calls Tryz.prog 3 #[.agg (flV (.slice A ms.length c) v vs (.slice AN ns.length cN) at_ sound),.agg #[.int .i64 kd,.int .i64 fb,.bool det,.int .i64 bud]] w fun e w'=>e= .returned (.bool true)∧Below w.heap.size w w':=by
 have haw:=fun wx (hb:Below w.heap.size w wx)=>Aw_top wx (hG.below hb);have HW:=Lib.hid hw;have HA:=Lib.hid h;have HN:=Lib.hid h2;unfold flV;have L0:=Lib.hid (((Below.refl _ w).alloc (Nat.le_refl _) (.cells #[.slice A ms.length c,.string (B v),.int .i64 vs,.slice AN ns.length cN,.int .i64 at_,.string (B sound)] 30)).alloc (by rw [World.size_alloc];exact Nat.le_succ _) (.cells #[.int .i64 kd,.int .i64 fb,.bool det,.int .i64 bud] 33));have X0:=Lib.hid ((Bx.new w #[.slice A ms.length c,.string (B v),.int .i64 vs,.slice AN ns.length cN,.int .i64 at_,.string (B sound)] 30).alloc (.cells #[.int .i64 kd,.int .i64 fb,.bool det,.int .i64 bud] 33));have X1:=Lib.hid (Bx.new (w.alloc (.cells #[.slice A ms.length c,.string (B v),.int .i64 vs,.slice AN ns.length cN,.int .i64 at_,.string (B sound)] 30)) #[.int .i64 kd,.int .i64 fb,.bool det,.int .i64 bud] 33);rw [World.size_alloc] at X1;clear h h2 hw;go_enter Tryz.func3,Tryz.ntmps3
 go_upto_region 3 with(go_at_call 4;refine(haw _ L0.out).mono ?_;clear haw;rintro e w1 ⟨rfl,hb1⟩;have L1:=Lib.hid (L0.out.trans (hb1.mono L0.out.size));have Y0:=Lib.hid (X0.out.below hb1);have Y1:=Lib.hid (X1.out.below hb1);clear X0 X1 hb1)
 have hlt:=Zoq ms v vs ns at_ sound A AN c cN hm hn w1 ((HA.out.below L1.out).more L1.out.size) ((HN.out.below L1.out).more L1.out.size);have hri:=fun wx=>Zjm kd fb bud det wx;unfold flV at hlt;have y0:=Y0.out.six;have y1:=Y1.out.four;rcases hlf:Zcj ms v ns sound with _|_
 · rw [hlf] at hlt;go_wp2_with (go_at_call 5;refine hlt.mono ?_;clear hlt;rintro e w2 ⟨rfl,hb2⟩;have B2:=Lib.hid (L1.out.trans (hb2.mono L1.out.size));clear hb2)
   go_ret
   exact⟨rfl,B2.out⟩
 rw [hlf] at hlt;rcases hrb:ZcU kd fb bud with _|_
 · rw [hrb] at hri;go_wp2_with (first
    |(go_at_call 5;refine hlt.mono ?_;clear hlt;rintro e w2 ⟨rfl,hb2⟩;have y1:=(Y1.out.below hb2).four;have B2:=Lib.hid (L1.out.trans (hb2.mono L1.out.size));clear hb2)
    |(go_at_call 6;refine(hri _).mono ?_;clear hri;rintro e w3 ⟨rfl,hb3⟩;have B3:=Lib.hid (B2.out.trans (hb3.mono B2.out.size));clear hb3))
   go_ret
   exact⟨rfl,B3.out⟩
 rw [hrb] at hri;have hbd:0≤bud:=by unfold ZcU at hrb;rw [decide_eq_true_eq] at hrb;exact hrb.2.2.1
 by_cases hpo:0<bud
 · go_wp2_with (first
    |(go_at_call 5;refine hlt.mono ?_;clear hlt;rintro e w2 ⟨rfl,hb2⟩;have y1:=(Y1.out.below hb2).four;have Z2:=Lib.hid (Y1.out.below hb2);have B2:=Lib.hid (L1.out.trans (hb2.mono L1.out.size));clear hb2)
    |(go_at_call 6;refine(hri _).mono ?_;clear hri;rintro e w3 ⟨rfl,hb3⟩;have y3:=(Z2.out.below hb3).four;have B3:=Lib.hid (B2.out.trans (hb3.mono B2.out.size));clear hb3))
   go_ret
   exact⟨rfl,B3.out⟩
 have hb0:bud=0:=by omega
 subst hb0;have hx:=Zrr hlf;go_upto_region 5 with(first
  |(go_at_call 5;refine hlt.mono ?_;clear hlt;rintro e w2 ⟨rfl,hb2⟩;have y1:=(Y1.out.below hb2).four;have Z0:=Lib.hid (Y0.out.below hb2);have Z1:=Lib.hid (Y1.out.below hb2);have L2:=Lib.hid (L1.out.trans (hb2.mono L1.out.size)))
  |(go_at_call 6;refine(hri _).mono ?_;clear hri;rintro e w3 ⟨rfl,hb3⟩;have T0:=Lib.hid (Z0.out.below hb3);have T1:=Lib.hid (Z1.out.below hb3);have L3:=Lib.hid (L2.out.trans (hb3.mono L2.out.size));have y3:=T1.out.four;have t0:=T0.out.six))
 clear y0 y1 hb2 hb3 Y0 Y1 Z0 Z1 L1 L2;have hpr:=ZiZ ms v vs ns at_ sound A AN c cN hx w3 (HW.out.below L3.out).1 ((HA.out.below L3.out).more L3.out.size) ((HN.out.below L3.out).more L3.out.size);unfold flV fpX at hpr;by_cases hck:ZY ms v ns at_=true
 · rw [if_pos hck] at hpr;have hbn:=fun wx=>ZaG 0 0 rfl wx;go_upto_region 8 with(first
    |(go_at_call 7;refine hpr.mono ?_;clear hpr;rintro e w4 ⟨hb4,rfl⟩;have U0:=Lib.hid ((T0.out.below hb4).alloc (.cells #[.int .i64 0,.int .i64 0] 39));have U1:=Lib.hid ((T1.out.below hb4).alloc (.cells #[.int .i64 0,.int .i64 0] 39));have L4:=Lib.hid ((L3.out.trans (hb4.mono L3.out.size)).alloc (Nat.le_trans L3.out.size hb4.size) (.cells #[.int .i64 0,.int .i64 0] 39)))
    |(go_at_call 8;refine(hbn _).mono ?_;rintro e w5 ⟨rfl,hb5⟩;have V0:=Lib.hid (U0.out.below hb5);have V1:=Lib.hid (U1.out.below hb5);have L5:=Lib.hid (L4.out.trans (hb5.mono L4.out.size))))
   obtain⟨fbn,hfe,hf6⟩:∃n:Nat,fb=n∧n≤6:=by
    unfold ZcU at hrb;rw [decide_eq_true_eq] at hrb;exact⟨fb.toNat,by omega,by omega⟩
   subst hfe;have S0:Hid (TbSt w w5 #[.slice A ms.length c,.string (B v),.int .i64 vs,.slice AN ns.length cN,.int .i64 at_,.string (B sound)] #[.int .i64 kd,.int .i64 fbn,.bool det,.int .i64 0]):=Lib.hid ⟨V0.out,V1.out,L5.out⟩;clear T0 T1 U0 U1 V0 V1 L3 L4 L5 hb4 hb5 y3 t0;have z1:=S0.out.o.four;go_upto_region 9 with fail
   have S1:Hid (TbSt w _ #[.slice A ms.length c,.string (B v),.int .i64 vs,.slice AN ns.length cN,.int .i64 at_,.string (B sound)] #[.int .i64 3,.int .i64 fbn,.bool det,.int .i64 0]):=Lib.hid (S0.out.putO 0 (.int .i64 3));generalize (w5.setCell ⟨w.heap.size+1,0,none⟩ (.int .i64 3))=w6 at*;clear S0 z1;have z1:=S1.out.o.four;have hfp:=Zi1 hck hx 3 (.inl rfl) fbn (by omega) det w6 (HW.out.below S1.out.low);go_upto_region 10 with(first
    |(go_at_call 9;refine hfp.mono ?_;clear hfp;rintro e w7 ⟨T,rfl,hT,hb7⟩;have S2:=Lib.hid (S1.out.below hb7);obtain⟨vl,vn,st,hTe,hm7,hn7⟩:=hT;have HTT:=Lib.hid (Ztv hTe (Zbc hm7) (Zbc hn7));have HTm:=Lib.hid (tf_mid hTe);have HM:=Lib.hid hm7;have HNN:=Lib.hid hn7;clear hTe hm7 hn7 hb7)
    |(refine Zgn rfl 56 _ _ rfl _ _ T 39 rfl rfl (by rw [HTT.out.1];kernel_rfl) (by rw [HTT.out.1];rfl) HTT.out.2 fun W8 b8 d8 h8=> ?_;have T8:=Lib.hid b8;have D8:=Lib.hid d8;have H8:=Lib.hid h8;have d80:=d8.cell 0;have d81:=d8.cell 1;have g80:=d8.free 0;have g81:=d8.free 1;clear b8 d8 h8))
   have HB:=Lib.hid ((H8.out.setCell (p:=⟨w7.heap.size+1,0,none⟩) (Nat.le_succ _) (.int .i64 0)).setCell (p:=⟨w7.heap.size+1,1,none⟩) (Nat.le_succ _) (.int .i64 0));have hz6:=S1.out.o.lt;have hz7:=S2.out.o.lt;have C0:Hid (TcSt w _ #[.slice A ms.length c,.string (B v),.int .i64 vs,.slice AN ns.length cN,.int .i64 at_,.string (B sound)] #[.int .i64 3,.int .i64 fbn,.bool det,.int .i64 0] T w7.heap.size vl vn ms (ns.map Nx.up)):=Lib.hid ⟨S2.out.below HB.out,(T8.out.set (by omega) 0 (.int .i64 0)).set (by omega) 1 (.int .i64 0),Zcn D8.out (.int .i64 0) (.int .i64 0),(HM.out.low (by omega)).below HB.out,(HNN.out.low (by omega)).below HB.out,by omega⟩;clear HB T8 D8 H8 d80 d81 g80 g81 S1 S2 z1 HM HNN hz6 hz7;generalize ((W8.setCell ⟨w7.heap.size+1,0,none⟩ (.int .i64 0)).setCell ⟨w7.heap.size+1,1,none⟩ (.int .i64 0))=w9 at*;generalize w7.heap.size=K at*;have z1:=C0.out.s.o.four;have hnf:=Zi7 hck hx 3 (.inl rfl) fbn hf6 det w9 (HW.out.below C0.out.s.low);go_upto_region 11 with(go_at_call 10;refine hnf.mono ?_;clear hnf;rintro e w10 ⟨rfl,hb10⟩;have C1:=Lib.hid (C0.out.below hb10);clear hb10)
   have hp2:w.heap.size+2≤w10.heap.size:=C1.out.s.o.lt;have C2:=Lib.hid (C1.out.alloc (.cells #[.int .i64 0,.int .i64 0] 39));have P2:=Lib.hid (Bx.new w10 #[.int .i64 0,.int .i64 0] 39);clear z1 C0 C1;generalize (w10.alloc (.cells #[.int .i64 0,.int .i64 0] 39))=w11 at*;generalize w10.heap.size=p at*;have z1:=C2.out.s.o.four;go_upto_region 12 with fail
   have C3:Hid (TcSt w _ #[.slice A ms.length c,.string (B v),.int .i64 vs,.slice AN ns.length cN,.int .i64 at_,.string (B sound)] #[.int .i64 0,.int .i64 fbn,.bool det,.int .i64 0] T K vl vn ms (ns.map Nx.up)):=Lib.hid (C2.out.putO 0 (.int .i64 0));have P3:=Lib.hid (P2.out.set (k:=w.heap.size+1) (by omega) 0 (.int .i64 0));clear z1 C2 P2;generalize (w11.setCell ⟨w.heap.size+1,0,none⟩ (.int .i64 0))=w12 at*;have z1:=C3.out.s.o.four;have hnf:=Zi7 hck hx 0 (.inr rfl) fbn hf6 det w12 (HW.out.below C3.out.s.low);go_upto_region 13 with(go_at_call 10;refine hnf.mono ?_;clear hnf;rintro e w13 ⟨rfl,hb13⟩;have C4:=Lib.hid (C3.out.below hb13);have P4:=Lib.hid (P3.out.below hb13);clear hb13)
   have hq2:w.heap.size+2≤w13.heap.size:=C4.out.s.o.lt;have D0:Hid (TdSt w (w13.alloc (.cells #[.int .i64 0,.int .i64 0] 39)) _ _ T K vl vn ms (ns.map Nx.up) p w13.heap.size):=Lib.hid ⟨C4.out.alloc _,P4.out.alloc _,Bx.new w13 _ _,hp2,hq2⟩;clear z1 C3 C4 P3 P4;generalize (w13.alloc (.cells #[.int .i64 0,.int .i64 0] 39))=w14 at*;generalize w13.heap.size=q at*;have x4:=D0.out.c.s.x.six;have x5:=D0.out.c.s.x.free 4;go_upto_region 14 with fail
   have D1:Hid (TdSt w _ #[.slice A ms.length c,.string (B v),.int .i64 vs,.slice AN ns.length cN,.int .i64 (max at_ (-1)),.string (B sound)] _ T K vl vn ms (ns.map Nx.up) p q):=Lib.hid (D0.out.putX 4 (.int .i64 (max at_ (-1))));clear x4 x5 D0;generalize (w14.setCell ⟨w.heap.size,4,none⟩ (.int .i64 (max at_ (-1))))=w15 at*;have hus:=ZtY ns;have hul:(ns.map Nx.up).length≤1000:=by rw [List.length_map];exact Nat.le_trans hx.nsl (by decide)
   generalize ns.map Nx.up=nu at*;have HUS:=Lib.hid hus;clear hus;have TS:Hid (T14 w.heap.size K p q #[.slice A ms.length c,.string (B v),.int .i64 vs,.slice AN ns.length cN,.int .i64 (max at_ (-1)),.string (B sound)] T w15):=Lib.hid ⟨D1.out.c.s.x,D1.out.c.t,D1.out.c.g,D1.out.fp,D1.out.fq⟩;have LW:=Lib.hid D1.out.c.s.low;obtain⟨A1,c1,hv1,hr1⟩:=RdN.of_rows Zet D1.out.c.m;obtain⟨A2,c2,hv2,hr2⟩:=RdN.of_rows ZdO D1.out.c.n;clear D1;subst hv1 hv2;have hml:=hx.msl;have hnl:=hx.nsl;have hOy:∀wx,Below w15.heap.size w15 wx→_:=fun wx hb=>Zjb ms v st nu (max at_ (-1)) sound A1 A2 c1 c2 (by omega) hul wx ((hr1.below hb).more hb.size) ((hr2.below hb).more hb.size);have hOx:∀wx,Below w15.heap.size w15 wx→_:=fun wx hb=>Zjb ms v vs ns (max at_ (-1)) sound A AN c cN (by omega) (by omega) wx ((HA.out.below (LW.out.trans (hb.mono LW.out.size))).more (Nat.le_trans LW.out.size hb.size)) ((HN.out.below (LW.out.trans (hb.mono LW.out.size))).more (Nat.le_trans LW.out.size hb.size));unfold ZgG flV at hOy hOx;generalize B (ZN ms v ns sound)=PS at*;have L0:Hid (Below w15.heap.size w15 w15.drew):=Lib.hid (ZpO (Below.refl _ _));refine ZcX (T14 w.heap.size K p q #[.slice A ms.length c,.string (B v),.int .i64 vs,.slice AN ns.length cN,.int .i64 (max at_ (-1)),.string (B sound)] T) [(0,true),(1,false),(2,true),(3,true),(4,true),(5,true),(7,true),(6,false),(8,false),(9,false),(10,true),(11,true),(12,true),(13,true),(14,true),(15,true),(16,true),(17,true),(18,false),(19,true),(20,true),(21,true),(22,true),(23,true),(24,true),(25,true),(26,true),(27,true),(28,false),(29,true),(30,true),(31,true)] (by kernel_rfl) (by kernel_rfl) (by kernel_rfl) (Nat.le_of_ble_eq_true rfl) (fun _ _ d _ _ h=>by cases d<;>exact h) (TS.out.below L0.out) ?_;refine Zeq rfl (by rfl) 39 _ rfl (K+1) 0 rfl [.int .i64 0,.int .i64 0] _ (fun w' h=>Bx.range0 h.g) Tryz.underlying39 rfl (by kernel_rfl) ?_
   try simp only [Act.put,List.setIfInBounds_toArray,List.set_cons_zero,List.set_cons_succ]
   refine ZaM rfl (by rfl) (fun KK hKK=> ?_)
   go_simp
   go_at_call 8
   refine(hbn _).mono ?_;rintro e w16 ⟨rfl,hb16⟩;have L16:=Lib.hid (L0.out.trans (hb16.mono L0.out.size));go_wp2_with fail
   refine hKK.out _ _ (TS.out.below L16.out) ?_;clear hKK KK
   try simp only [Act.put,List.setIfInBounds_toArray,List.set_cons_zero,List.set_cons_succ]
   iterate 3 (refine' Zaj rfl (by rfl) _ (fun w' hSw=>_) _;rotate_left;(go_simp;try with_reducible rfl);try simp only [Act.put,List.setIfInBounds_toArray,List.set_cons_zero,List.set_cons_succ])
   refine Zeq rfl (by rfl) 30 _ rfl K 17 rfl [.slice A1 ms.length c1,.string (B v),.int .i64 st,.slice A2 nu.length c2,.int .i64 (max at_ (-1)),.string (B sound)] _ (fun w' h=>Bx.mid h.t HTm.out) Tryz.underlying30 rfl (by kernel_rfl) ?_
   try simp only [Act.put,List.setIfInBounds_toArray,List.set_cons_zero,List.set_cons_succ]
   refine Zeq rfl (by rfl) 30 _ rfl w.heap.size 0 rfl [.slice A ms.length c,.string (B v),.int .i64 vs,.slice AN ns.length cN,.int .i64 (max at_ (-1)),.string (B sound)] _ (fun w' h=>Bx.range0 h.x) Tryz.underlying30 rfl (by kernel_rfl) ?_
   try simp only [Act.put,List.setIfInBounds_toArray,List.set_cons_zero,List.set_cons_succ]
   refine ZaM rfl (by rfl) (fun KK hKK=> ?_)
   go_simp
   go_at_call 12
   refine(hOy _ L16.out).mono ?_;rintro e w17 ⟨vy,ny,rfl,hry,hny,hb17⟩;have L17:=Lib.hid (L16.out.trans (hb17.mono L16.out.size));have RY:=Lib.hid hry;have NY:=Lib.hid hny;obtain⟨AY,cY,hvy,hRY⟩:=RdN.of_rows ZhM hry;obtain⟨AZ,cZ,hvz,hRZ⟩:=RdN.of_rows ZdO hny;clear hry hny RY NY;subst hvy hvz;go_wp2_with fail
   refine hKK.out _ _ (TS.out.below L17.out) ?_;clear hKK KK
   try simp only [Act.put,List.setIfInBounds_toArray,List.set_cons_zero,List.set_cons_succ]
   refine ZaM rfl (by rfl) (fun KK hKK=> ?_)
   go_simp
   go_at_call 12
   refine(hOx _ L17.out).mono ?_;rintro e w18 ⟨vx,nx,rfl,hrx,hnx,hb18⟩;have L18:=Lib.hid (L17.out.trans (hb18.mono L17.out.size));obtain⟨AX,cX,hvx,hRX⟩:=RdN.of_rows ZhM hrx;obtain⟨AW,cW,hvw,hRW⟩:=RdN.of_rows ZdO hnx;clear hrx hnx;subst hvx hvw;have hsm:=ZoZ ms v st vs nu ns (max at_ (-1)) sound AZ AW AY AX cZ cW cY cX (by omega) hul HUS.out w18 ((hRZ.below hb18).more hb18.size) hRW ((hRY.below hb18).more hb18.size) hRX;go_wp2_with fail
   refine hKK.out _ _ (TS.out.below L18.out) ?_;clear hKK KK
   try simp only [Act.put,List.setIfInBounds_toArray,List.set_cons_zero,List.set_cons_succ]
   refine ZaM rfl (by rfl) (fun KK hKK=> ?_)
   go_simp
   go_at_call 11
   refine(hsm).mono ?_;rintro e w19 ⟨rfl,hb19⟩;have L19:=Lib.hid (L18.out.trans (hb19.mono L18.out.size));go_wp2_with fail
   refine hKK.out _ _ (TS.out.below L19.out) ?_;clear hKK KK
   try simp only [Act.put,List.setIfInBounds_toArray,List.set_cons_zero,List.set_cons_succ]
   iterate 7 (refine' Zaj rfl (by rfl) _ (fun w' hSw=>_) _;rotate_left;(go_simp;try with_reducible rfl);try simp only [Act.put,List.setIfInBounds_toArray,List.set_cons_zero,List.set_cons_succ])
   refine Zeq rfl (by rfl) 39 _ rfl p 0 rfl [.int .i64 0,.int .i64 0] _ (fun w' h=>Bx.range0 h.p) Tryz.underlying39 rfl (by kernel_rfl) ?_
   try simp only [Act.put,List.setIfInBounds_toArray,List.set_cons_zero,List.set_cons_succ]
   refine ZaM rfl (by rfl) (fun KK hKK=> ?_)
   go_simp
   go_at_call 8
   refine(hbn _).mono ?_;rintro e w20 ⟨rfl,hb20⟩;have L20:=Lib.hid (L19.out.trans (hb20.mono L19.out.size));go_wp2_with fail
   refine hKK.out _ _ (TS.out.below L20.out) ?_;clear hKK KK
   try simp only [Act.put,List.setIfInBounds_toArray,List.set_cons_zero,List.set_cons_succ]
   iterate 8 (refine' Zaj rfl (by rfl) _ (fun w' hSw=>_) _;rotate_left;(go_simp;try with_reducible rfl);try simp only [Act.put,List.setIfInBounds_toArray,List.set_cons_zero,List.set_cons_succ])
   refine Zeq rfl (by rfl) 39 _ rfl q 0 rfl [.int .i64 0,.int .i64 0] _ (fun w' h=>Bx.range0 h.q) Tryz.underlying39 rfl (by kernel_rfl) ?_
   try simp only [Act.put,List.setIfInBounds_toArray,List.set_cons_zero,List.set_cons_succ]
   refine ZaM rfl (by rfl) (fun KK hKK=> ?_)
   go_simp
   go_at_call 8
   refine(hbn _).mono ?_;rintro e w21 ⟨rfl,hb21⟩;have L21:=Lib.hid (L20.out.trans (hb21.mono L20.out.size));go_wp2_with fail
   refine hKK.out _ _ (TS.out.below L21.out) ?_;clear hKK KK
   try simp only [Act.put,List.setIfInBounds_toArray,List.set_cons_zero,List.set_cons_succ]
   iterate 3 (refine' Zaj rfl (by rfl) _ (fun w' hSw=>_) _;rotate_left;(go_simp;try with_reducible rfl);try simp only [Act.put,List.setIfInBounds_toArray,List.set_cons_zero,List.set_cons_succ])
   refine ZcK ?_;go_wp2_with fail
   go_ret
   exact⟨rfl,LW.out.trans (L21.out.mono LW.out.size)⟩
 · rw [if_neg hck] at hpr;have hby:=fun(n a:Int) (hn:1≤n) wx=>ZcB n a (by omega) wx;go_wp2_with (first
    |(go_at_call 7;refine hpr.mono ?_;clear hpr;rintro e w4 ⟨hb4,n,a,hn1,rfl⟩;have hb5:=hby n a hn1;clear hby;have B4:=Lib.hid ((L3.out.trans (hb4.mono L3.out.size)).alloc (Nat.le_trans L3.out.size hb4.size) (.cells #[.int .i64 n,.int .i64 a] 39)))
    |(go_at_call 8;refine(hb5 _).mono ?_;clear hb5;rintro e w5 ⟨rfl,hb6⟩;have B5:=Lib.hid (B4.out.trans (hb6.mono B4.out.size));clear hb6))
   go_ret
   exact⟨rfl,B5.out⟩
end Go.Proofs.YtlglfmbccihopaaGreatDoor
