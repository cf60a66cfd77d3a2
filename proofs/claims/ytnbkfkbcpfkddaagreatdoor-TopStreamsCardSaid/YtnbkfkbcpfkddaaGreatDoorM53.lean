/- Lemmas for a statement on the tops; conditions: as each says. -/
import Derived.Test.YtnbkfkbcpfkddaaGreatDoorM52
set_option linter.unusedVariables false
set_option linter.unusedSimpArgs false
set_option maxRecDepth 100000
set_option maxHeartbeats 4000000
namespace Go.Proofs.YtnbkfkbcpfkddaaGreatDoor
open Go Go.RowKit
theorem ZdP {P:Program} {l:List Oper} {Q:Exit→Act→World→Prop} {S:World→Prop} {i:Nat} {r:List (Nat×Bool)} {o:Oper} {a:Act} {w:World} (ho:Zan l i=some o)(hw:Region.wanted o (yielded l.toArray a.tmps)=true)(ty:TypeId)(x:Operand)(hop:o.op= .load ty x)(b off:Nat)(hx:a.eval x= .pointer (some ⟨b,off,none⟩))(cs:List Value)(d:TypeDesc)(hS:∀w,S w→w.rangeAt b off cs)
 (hu:P.underlying ty=some d) (hd:d.isRow=true) (hi:(P.info? ty).map (·.size)=some cs.length) (h:Zay P l Q S r (a.put o.dst (.agg cs.toArray)) w):Zay P l Q S ((i,true)::r) a w:=
 ⟨o,_,ho,yieldsIf_load_mid hw ty x hop b off hx cs d hS hu hd hi,h⟩
theorem Bx.range0 {w:World} {g:Nat} {cs:List Value} {T:TypeId} (h:Bx w g cs.toArray T):w.rangeAt g 0 cs:=fun j u hu=>by
 rw [Nat.zero_add,h.cell j];simpa using hu
theorem Bx.mid {w:World} {g o:Nat} {cs:List Value} {C:Array Value} {T:TypeId} (h:Bx w g C T)(hm:∀j u,cs[j]? =some u→C[o+j]? =some u):w.rangeAt g o cs:=fun j u hu=>by
 rw [h.cell (o+j)];exact hm j u hu
theorem to_mid {T:Array Value} {kd:Int} {a b c d e f g h i j k:Value} (H:T=TO kd a b c d e f g h i j k):∀q u,[a,b,c,d,e,f,g,h,i,j,k][q]? =some u→T[6+q]? =some u:=by
 subst H;intro q u hu;have hj:q<11:=(List.getElem?_eq_some_iff.1 hu).1
 match q,hj,hu with
 |0,_,hu=>exact hu
 |1,_,hu=>exact hu
 |2,_,hu=>exact hu
 |3,_,hu=>exact hu
 |4,_,hu=>exact hu
 |5,_,hu=>exact hu
 |6,_,hu=>exact hu
 |7,_,hu=>exact hu
 |8,_,hu=>exact hu
 |9,_,hu=>exact hu
 |10,_,hu=>exact hu
theorem Bx.eleven {w:World} {G:Nat} {a b c d e f g h i j k:Value} {T:TypeId} (H:Bx w G #[a,b,c,d,e,f,g,h,i,j,k] T):w.cell? ⟨G,0,none⟩=some a∧w.cell? ⟨G,1,none⟩=some b∧w.cell? ⟨G,2,none⟩=some c∧w.cell? ⟨G,3,none⟩=some d∧w.cell? ⟨G,4,none⟩=some e∧w.cell? ⟨G,5,none⟩=some f∧w.cell? ⟨G,6,none⟩=some g∧w.cell? ⟨G,7,none⟩=some h∧w.cell? ⟨G,8,none⟩=some i∧w.cell? ⟨G,9,none⟩=some j∧w.cell? ⟨G,10,none⟩=some k:=⟨H.cell 0,H.cell 1,H.cell 2,H.cell 3,H.cell 4,H.cell 5,H.cell 6,H.cell 7,H.cell 8,H.cell 9,H.cell 10⟩
structure TbSt (w wx:World)(XA OA:Array Value):Prop where
 x:Bx wx w.heap.size XA 36
 o:Bx wx (w.heap.size+1) OA 39
 low:Below w.heap.size w wx
theorem TbSt.below {w wx wy:World} {XA OA:Array Value} (h:TbSt w wx XA OA)(hb:Below wx.heap.size wx wy):TbSt w wy XA OA:=⟨h.x.below hb,h.o.below hb,h.low.trans (hb.mono h.low.size)⟩
theorem TbSt.putO {w wx:World} {XA OA:Array Value} (h:TbSt w wx XA OA)(j:Nat)(v:Value):TbSt w (wx.setCell ⟨w.heap.size+1,j,none⟩ v) XA (OA.setIfInBounds j v):=
 ⟨h.x.set (by omega) j v,h.o.put j v,h.low.setCell (by show w.heap.size≤w.heap.size+1;omega) v⟩
structure TcSt (w wx:World)(XA OA T:Array Value)(K:Nat)(vn vso:Value)(x:Sx):Prop where
 s:TbSt w wx XA OA
 t:Bx wx K T 56
 g:Bx wx (K+1) #[.int .i64 0,.int .i64 0] 45
 m:OoSt (w.heap.size+2) x wx vn vso
 hK:w.heap.size+2≤K
theorem TcSt.below {w wx wy:World} {XA OA T:Array Value} {K:Nat} {vn vso:Value} {x:Sx} (h:TcSt w wx XA OA T K vn vso x)(hb:Below wx.heap.size wx wy):TcSt w wy XA OA T K vn vso x:=
 ⟨h.s.below hb,h.t.below hb,h.g.below hb,h.m.below hb,h.hK⟩
theorem TcSt.alloc {w wx:World} {XA OA T:Array Value} {K:Nat} {vn vso:Value} {x:Sx} (h:TcSt w wx XA OA T K vn vso x)(ob:Obj):TcSt w (wx.alloc ob) XA OA T K vn vso x:=h.below ((Below.refl _ _).alloc (Nat.le_refl _) _)
theorem TcSt.putO {w wx:World} {XA OA T:Array Value} {K:Nat} {vn vso:Value} {x:Sx} (h:TcSt w wx XA OA T K vn vso x)(j:Nat)(v:Value):TcSt w (wx.setCell ⟨w.heap.size+1,j,none⟩ v) XA (OA.setIfInBounds j v) T K vn vso x:=
 ⟨h.s.putO j v,h.t.set (by have:=h.hK;omega) j v,h.g.set (by have:=h.hK;omega) j v,h.m.set (by omega) j v,h.hK⟩
structure TdSt (w wx:World)(XA OA T:Array Value)(K:Nat)(vn vso:Value)(x:Sx)(p q:Nat):Prop where
 c:TcSt w wx XA OA T K vn vso x
 fp:Bx wx p #[.int .i64 0,.int .i64 0] 45
 fq:Bx wx q #[.int .i64 0,.int .i64 0] 45
 hp:w.heap.size+2≤p
 hq:w.heap.size+2≤q
theorem Zq6 (ns:List Nx):Zcd (ns.map Nx.up) ns:=by
 unfold Zcd;rw [List.map_map];rfl
theorem ZqH {x:Sx} {A1 A2:Option Addr} {n1 c1 n2 c2:Nat} {T:Array Value} (h:T=TO 2 (.int .u8 x.first.fl.toNat) (.int .u64 (x.first.pos:Nat)) (.int .u32 (x.first.ser:Nat)) (.int .u32 (x.first.num:Nat)) (.string (B x.first.laces)) (.string (B x.first.body)) (.string (B x.v)) (.int .i64 7) (.slice A1 n1 c1) (.string (B x.setup)) (.slice A2 n2 c2)):T.size=25∧T.all (·.oneCell')=true:=by
 subst h;exact⟨rfl,ZeZ x A1 A2 n1 c1 n2 c2⟩
structure T14 (g K p q:Nat)(XA T:Array Value)(w':World):Prop where
 x:Bx w' g XA 36
 t:Bx w' K T 56
 g:Bx w' (K+1) #[.int .i64 0,.int .i64 0] 45
 p:Bx w' p #[.int .i64 0,.int .i64 0] 45
 q:Bx w' q #[.int .i64 0,.int .i64 0] 45
theorem T14.below {g K p q:Nat} {XA T:Array Value} {w w':World} (h:T14 g K p q XA T w)(hb:Below w.heap.size w w'):T14 g K p q XA T w':=
 ⟨h.x.below hb,h.t.below hb,h.g.below hb,h.p.below hb,h.q.below hb⟩
theorem Zmc (x:Sx)(ht:SxTy x)(A AN:Option Addr)(c cN:Nat)(hm:x.up.sound.length≤1000)(hn:(x.ns.map Nx.up).length≤1000)(w:World)(h:RdN 6 pgL w w.heap.size A x.up.sound)(h2:RdN 3 nxV w w.heap.size AN (x.ns.map Nx.up)):
 Calls Tryz.prog 12 #[.agg #[.int .u8 x.first.fl.toNat,.int .u64 (x.first.pos:Nat),.int .u32 (x.first.ser:Nat),.int .u32 (x.first.num:Nat),.string (B x.first.laces),.string (B x.first.body),.string (B x.v),.int .i64 7,.slice AN (x.ns.map Nx.up).length cN,.string (B x.setup),.slice A x.up.sound.length c]] w (fun e w'=>∃vn vso,e= .returned (.agg (rsV x.first x.v 7 vn x.setup vso))∧Zg nxV w.heap.size w' vn (x.ns.map Nx.up)∧Zg rpL w.heap.size w' vso x.up.sound∧Below w.heap.size w w'):=ZhU x.up (ty_up ht) 7 A AN c cN hm hn w h h2
theorem ZmU (x:Sx)(ht:SxTy x)(vs:Int)(A AN:Option Addr)(c cN:Nat)(kd fb bud:Int)(det:Bool)(hm:x.sound.length≤9223372036854775807)(hn:x.ns.length≤9223372036854775807)(w:World)(hG:Ev.Gl w)(hw:Wk w)(h:RdN 6 pgL w w.heap.size A x.sound)(h2:RdN 3 nxV w w.heap.size AN x.ns):
 Calls Tryz.prog 3 #[.agg (stV x.first x.v vs (.slice AN x.ns.length cN) x.setup (.slice A x.sound.length c)),.agg #[.int .i64 kd,.int .i64 fb,.bool det,.int .i64 bud]] w fun e w'=>e= .returned (.bool true)∧Below w.heap.size w w':=by
 have haw:=fun wx (hb:Below w.heap.size w wx)=>Aw_top wx (hG.below hb);have HW:=Lib.hid hw;have HT:=Lib.hid ht;have HA:=Lib.hid h;have HN:=Lib.hid h2;unfold stV;have L0:=Lib.hid (((Below.refl _ w).alloc (Nat.le_refl _) (.cells #[.int .u8 x.first.fl.toNat,.int .u64 (x.first.pos:Nat),.int .u32 (x.first.ser:Nat),.int .u32 (x.first.num:Nat),.string (B x.first.laces),.string (B x.first.body),.string (B x.v),.int .i64 vs,.slice AN x.ns.length cN,.string (B x.setup),.slice A x.sound.length c] 36)).alloc (by rw [World.size_alloc];exact Nat.le_succ _) (.cells #[.int .i64 kd,.int .i64 fb,.bool det,.int .i64 bud] 39));have X0:=Lib.hid ((Bx.new w #[.int .u8 x.first.fl.toNat,.int .u64 (x.first.pos:Nat),.int .u32 (x.first.ser:Nat),.int .u32 (x.first.num:Nat),.string (B x.first.laces),.string (B x.first.body),.string (B x.v),.int .i64 vs,.slice AN x.ns.length cN,.string (B x.setup),.slice A x.sound.length c] 36).alloc (.cells #[.int .i64 kd,.int .i64 fb,.bool det,.int .i64 bud] 39));have X1:=Lib.hid (Bx.new (w.alloc (.cells #[.int .u8 x.first.fl.toNat,.int .u64 (x.first.pos:Nat),.int .u32 (x.first.ser:Nat),.int .u32 (x.first.num:Nat),.string (B x.first.laces),.string (B x.first.body),.string (B x.v),.int .i64 vs,.slice AN x.ns.length cN,.string (B x.setup),.slice A x.sound.length c] 36)) #[.int .i64 kd,.int .i64 fb,.bool det,.int .i64 bud] 39);rw [World.size_alloc] at X1;clear h h2 hw ht;go_enter Tryz.func3,Tryz.ntmps3
 go_upto_region 3 with(go_at_call 4;refine(haw _ L0.out).mono ?_;clear haw;rintro e w1 ⟨rfl,hb1⟩;have L1:=Lib.hid (L0.out.trans (hb1.mono L0.out.size));have Y0:=Lib.hid (X0.out.below hb1);have Y1:=Lib.hid (X1.out.below hb1);clear X0 X1 hb1)
 have hlt:=Zl5 x vs A AN c cN hn hm w1 ((HA.out.below L1.out).more L1.out.size) ((HN.out.below L1.out).more L1.out.size);have hri:=fun wx=>Zh9 kd fb bud det wx;unfold stV at hlt;have y0:=Y0.out.eleven;have y1:=Y1.out.four;rcases hlf:ZbR x with _|_
 · rw [hlf] at hlt;go_wp2_with (go_at_call 5;refine hlt.mono ?_;clear hlt;rintro e w2 ⟨rfl,hb2⟩;have B2:=Lib.hid (L1.out.trans (hb2.mono L1.out.size));clear hb2)
   go_ret
   exact⟨rfl,B2.out⟩
 rw [hlf] at hlt;rcases hrb:Zcn kd fb bud with _|_
 · rw [hrb] at hri;go_wp2_with (first
    |(go_at_call 5;refine hlt.mono ?_;clear hlt;rintro e w2 ⟨rfl,hb2⟩;have y1:=(Y1.out.below hb2).four;have B2:=Lib.hid (L1.out.trans (hb2.mono L1.out.size));clear hb2)
    |(go_at_call 6;refine(hri _).mono ?_;clear hri;rintro e w3 ⟨rfl,hb3⟩;have B3:=Lib.hid (B2.out.trans (hb3.mono B2.out.size));clear hb3))
   go_ret
   exact⟨rfl,B3.out⟩
 rw [hrb] at hri;have hbd:0≤bud:=by unfold Zcn at hrb;rw [decide_eq_true_eq] at hrb;exact hrb.2.2.1
 by_cases hpo:0<bud
 · go_wp2_with (first
    |(go_at_call 5;refine hlt.mono ?_;clear hlt;rintro e w2 ⟨rfl,hb2⟩;have y1:=(Y1.out.below hb2).four;have Z2:=Lib.hid (Y1.out.below hb2);have B2:=Lib.hid (L1.out.trans (hb2.mono L1.out.size));clear hb2)
    |(go_at_call 6;refine(hri _).mono ?_;clear hri;rintro e w3 ⟨rfl,hb3⟩;have y3:=(Z2.out.below hb3).four;have B3:=Lib.hid (B2.out.trans (hb3.mono B2.out.size));clear hb3))
   go_ret
   exact⟨rfl,B3.out⟩
 have hb0:bud=0:=by omega
 subst hb0;have hx:=ZoH hlf;go_upto_region 5 with(first
  |(go_at_call 5;refine hlt.mono ?_;clear hlt;rintro e w2 ⟨rfl,hb2⟩;have y1:=(Y1.out.below hb2).four;have Z0:=Lib.hid (Y0.out.below hb2);have Z1:=Lib.hid (Y1.out.below hb2);have L2:=Lib.hid (L1.out.trans (hb2.mono L1.out.size)))
  |(go_at_call 6;refine(hri _).mono ?_;clear hri;rintro e w3 ⟨rfl,hb3⟩;have T0:=Lib.hid (Z0.out.below hb3);have T1:=Lib.hid (Z1.out.below hb3);have L3:=Lib.hid (L2.out.trans (hb3.mono L2.out.size));have y3:=T1.out.four;have t0:=T0.out.eleven))
 clear y0 y1 hb2 hb3 Y0 Y1 Z0 Z1 L1 L2;have hpr:=ZhS x hx HT.out vs A AN c cN w3 (HW.out.below L3.out).1 ((HA.out.below L3.out).more L3.out.size) ((HN.out.below L3.out).more L3.out.size);unfold stV spR CpV at hpr;by_cases hck:ckS x=true
 · rw [if_pos hck] at hpr;have hbn:=fun wx=>ZT 0 0 rfl wx;go_upto_region 8 with(first
    |(go_at_call 7;refine hpr.mono ?_;clear hpr;rintro e w4 ⟨hb4,rfl⟩;have U0:=Lib.hid ((T0.out.below hb4).alloc (.cells #[.int .i64 0,.int .i64 0] 45));have U1:=Lib.hid ((T1.out.below hb4).alloc (.cells #[.int .i64 0,.int .i64 0] 45));have L4:=Lib.hid ((L3.out.trans (hb4.mono L3.out.size)).alloc (Nat.le_trans L3.out.size hb4.size) (.cells #[.int .i64 0,.int .i64 0] 45)))
    |(go_at_call 8;refine(hbn _).mono ?_;rintro e w5 ⟨rfl,hb5⟩;have V0:=Lib.hid (U0.out.below hb5);have V1:=Lib.hid (U1.out.below hb5);have L5:=Lib.hid (L4.out.trans (hb5.mono L4.out.size))))
   obtain⟨fbn,hfe,hf6⟩:∃n:Nat,fb=n∧n≤6:=by
    unfold Zcn at hrb;rw [decide_eq_true_eq] at hrb;exact⟨fb.toNat,by omega,by omega⟩
   subst hfe;have S0:Hid (TbSt w w5 #[.int .u8 x.first.fl.toNat,.int .u64 (x.first.pos:Nat),.int .u32 (x.first.ser:Nat),.int .u32 (x.first.num:Nat),.string (B x.first.laces),.string (B x.first.body),.string (B x.v),.int .i64 vs,.slice AN x.ns.length cN,.string (B x.setup),.slice A x.sound.length c] #[.int .i64 kd,.int .i64 fbn,.bool det,.int .i64 0]):=Lib.hid ⟨V0.out,V1.out,L5.out⟩;clear T0 T1 U0 U1 V0 V1 L3 L4 L5 hb4 hb5 y3 t0;have z1:=S0.out.o.four;go_upto_region 9 with fail
   have S1:Hid (TbSt w _ #[.int .u8 x.first.fl.toNat,.int .u64 (x.first.pos:Nat),.int .u32 (x.first.ser:Nat),.int .u32 (x.first.num:Nat),.string (B x.first.laces),.string (B x.first.body),.string (B x.v),.int .i64 vs,.slice AN x.ns.length cN,.string (B x.setup),.slice A x.sound.length c] #[.int .i64 2,.int .i64 fbn,.bool det,.int .i64 0]):=Lib.hid (S0.out.putO 0 (.int .i64 2));generalize (w5.setCell ⟨w.heap.size+1,0,none⟩ (.int .i64 2))=w6 at*;clear S0 z1;have z1:=S1.out.o.four;have hfp:=ZhK (ZcY.1 hck) hx HT.out 2 (.inl rfl) fbn (by omega) det w6 (HW.out.below S1.out.low);go_upto_region 10 with(first
    |(go_at_call 9;refine hfp.mono ?_;clear hfp;rintro e w7 ⟨T,rfl,hT,hb7⟩;have S2:=Lib.hid (S1.out.below hb7);obtain⟨vn,vso,hTe,hm7⟩:=hT;obtain⟨AP,nP,cP,hvP⟩:=Zb5 hm7.ns;obtain⟨AQ,cQ,hvQ⟩:=hm7.so.sl;subst hvP hvQ;have HTT:=Lib.hid (ZqH hTe);have HTm:=Lib.hid (to_mid hTe);have HM:=Lib.hid hm7;clear hTe hm7 hb7)
    |(refine Zfq rfl 56 _ _ rfl _ _ T 45 rfl rfl (by rw [HTT.out.1];kernel_rfl) (by rw [HTT.out.1];rfl) HTT.out.2 fun W8 b8 d8 h8=> ?_;have T8:=Lib.hid b8;have D8:=Lib.hid d8;have H8:=Lib.hid h8;have d80:=d8.cell 0;have d81:=d8.cell 1;have g80:=d8.free 0;have g81:=d8.free 1;clear b8 d8 h8))
   have HB:=Lib.hid ((H8.out.setCell (p:=⟨w7.heap.size+1,0,none⟩) (Nat.le_succ _) (.int .i64 0)).setCell (p:=⟨w7.heap.size+1,1,none⟩) (Nat.le_succ _) (.int .i64 0));have hz6:=S1.out.o.lt;have hz7:=S2.out.o.lt;have C0:Hid (TcSt w _ #[.int .u8 x.first.fl.toNat,.int .u64 (x.first.pos:Nat),.int .u32 (x.first.ser:Nat),.int .u32 (x.first.num:Nat),.string (B x.first.laces),.string (B x.first.body),.string (B x.v),.int .i64 vs,.slice AN x.ns.length cN,.string (B x.setup),.slice A x.sound.length c] #[.int .i64 2,.int .i64 fbn,.bool det,.int .i64 0] T w7.heap.size (.slice AP nP cP) (.slice AQ x.up.sound.length cQ) x):=Lib.hid ⟨S2.out.below HB.out,(T8.out.set (by omega) 0 (.int .i64 0)).set (by omega) 1 (.int .i64 0),Za9 D8.out (.int .i64 0) (.int .i64 0),(HM.out.low (by omega)).below HB.out,by omega⟩;clear HB T8 D8 H8 d80 d81 g80 g81 S1 S2 z1 HM hz6 hz7;generalize ((W8.setCell ⟨w7.heap.size+1,0,none⟩ (.int .i64 0)).setCell ⟨w7.heap.size+1,1,none⟩ (.int .i64 0))=w9 at*;generalize w7.heap.size=K at*;have z1:=C0.out.s.o.four;have hnf:=ZhO (ZcY.1 hck) hx HT.out 2 (.inl rfl) fbn hf6 det w9 (HW.out.below C0.out.s.low);go_upto_region 11 with(go_at_call 10;refine hnf.mono ?_;clear hnf;rintro e w10 ⟨rfl,hb10⟩;have C1:=Lib.hid (C0.out.below hb10);clear hb10)
   have hp2:w.heap.size+2≤w10.heap.size:=C1.out.s.o.lt;have C2:=Lib.hid (C1.out.alloc (.cells #[.int .i64 0,.int .i64 0] 45));have P2:=Lib.hid (Bx.new w10 #[.int .i64 0,.int .i64 0] 45);clear z1 C0 C1;generalize (w10.alloc (.cells #[.int .i64 0,.int .i64 0] 45))=w11 at*;generalize w10.heap.size=p at*;have z1:=C2.out.s.o.four;go_upto_region 12 with fail
   have C3:Hid (TcSt w _ #[.int .u8 x.first.fl.toNat,.int .u64 (x.first.pos:Nat),.int .u32 (x.first.ser:Nat),.int .u32 (x.first.num:Nat),.string (B x.first.laces),.string (B x.first.body),.string (B x.v),.int .i64 vs,.slice AN x.ns.length cN,.string (B x.setup),.slice A x.sound.length c] #[.int .i64 0,.int .i64 fbn,.bool det,.int .i64 0] T K (.slice AP nP cP) (.slice AQ x.up.sound.length cQ) x):=Lib.hid (C2.out.putO 0 (.int .i64 0));have P3:=Lib.hid (P2.out.set (k:=w.heap.size+1) (by omega) 0 (.int .i64 0));clear z1 C2 P2;generalize (w11.setCell ⟨w.heap.size+1,0,none⟩ (.int .i64 0))=w12 at*;have z1:=C3.out.s.o.four;have hnf:=ZhO (ZcY.1 hck) hx HT.out 0 (.inr rfl) fbn hf6 det w12 (HW.out.below C3.out.s.low);go_upto_region 13 with(go_at_call 10;refine hnf.mono ?_;clear hnf;rintro e w13 ⟨rfl,hb13⟩;have C4:=Lib.hid (C3.out.below hb13);have P4:=Lib.hid (P3.out.below hb13);clear hb13)
   have hq2:w.heap.size+2≤w13.heap.size:=C4.out.s.o.lt;have D0:Hid (TdSt w (w13.alloc (.cells #[.int .i64 0,.int .i64 0] 45)) _ _ T K (.slice AP nP cP) (.slice AQ x.up.sound.length cQ) x p w13.heap.size):=Lib.hid ⟨C4.out.alloc _,P4.out.alloc _,Bx.new w13 _ _,hp2,hq2⟩;clear z1 C3 C4 P3 P4;generalize (w13.alloc (.cells #[.int .i64 0,.int .i64 0] 45))=w14 at*;generalize w13.heap.size=q at*;have hus:=Zq6 x.ns;have hul:(x.ns.map Nx.up).length≤1000:=by rw [List.length_map];exact Nat.le_trans hx.nsl (by decide)
   have HUS:=Lib.hid hus;clear hus;have TS:Hid (T14 w.heap.size K p q #[.int .u8 x.first.fl.toNat,.int .u64 (x.first.pos:Nat),.int .u32 (x.first.ser:Nat),.int .u32 (x.first.num:Nat),.string (B x.first.laces),.string (B x.first.body),.string (B x.v),.int .i64 vs,.slice AN x.ns.length cN,.string (B x.setup),.slice A x.sound.length c] T w14):=Lib.hid ⟨D0.out.c.s.x,D0.out.c.t,D0.out.c.g,D0.out.fp,D0.out.fq⟩;have LW:=Lib.hid D0.out.c.s.low;obtain⟨A2,c2,hv2,hr2⟩:=RdN.of_rows Zde D0.out.c.m.ns;obtain⟨A1,c1,hv1,hr1⟩:=D0.out.c.m.so.rd Zb2;clear D0;injection hv1 with e1 _ e3
   injection hv2 with e4 e5 e6
   subst e1 e3 e4 e5 e6;have hml:=hx.snl;have hnl:=hx.nsl;have hus2:x.up.sound.length=x.sound.length:=Zc7 _ _;have HSP:Hid (Zce x.up.sound x.sound):=Lib.hid (Zja _ _);have hOy:∀wx,Below w14.heap.size w14 wx→_:=fun wx hb=>Zmc x HT.out AQ AP cQ cP (by omega) hul wx ((hr1.below hb).more hb.size) ((hr2.below hb).more hb.size);have hOx:∀wx,Below w14.heap.size w14 wx→_:=fun wx hb=>ZhU x HT.out vs A AN c cN (by omega) (by omega) wx ((HA.out.below (LW.out.trans (hb.mono LW.out.size))).more (Nat.le_trans LW.out.size hb.size)) ((HN.out.below (LW.out.trans (hb.mono LW.out.size))).more (Nat.le_trans LW.out.size hb.size));have hul2:x.up.sound.length≤1000:=by omega
   have HUL2:=Lib.hid hul2;have HUL:=Lib.hid hul;clear hus2 hul2 hul hml hnl;generalize x.up.sound=us at*;generalize x.ns.map Nx.up=nu at*;unfold ZfD stV at hOx;generalize B (prS x)=PS at*;have L0:Hid (Below w14.heap.size w14 w14.drew):=Lib.hid (Zni (Below.refl _ _));refine ZbM (T14 w.heap.size K p q #[.int .u8 x.first.fl.toNat,.int .u64 (x.first.pos:Nat),.int .u32 (x.first.ser:Nat),.int .u32 (x.first.num:Nat),.string (B x.first.laces),.string (B x.first.body),.string (B x.v),.int .i64 vs,.slice AN x.ns.length cN,.string (B x.setup),.slice A x.sound.length c] T) [(0,true),(1,false),(2,true),(3,true),(4,true),(5,true),(7,true),(6,false),(8,false),(9,false),(10,true),(11,true),(12,true),(13,true),(14,true),(15,true),(16,true),(17,true),(18,false),(19,true),(20,true),(21,true),(22,true),(23,true),(24,true),(25,true),(26,true),(27,true),(28,false),(29,true),(30,true),(31,true)] (by kernel_rfl) (by kernel_rfl) (by kernel_rfl) (Nat.le_of_ble_eq_true rfl) (fun _ _ d _ _ h=>by cases d<;>exact h) (TS.out.below L0.out) ?_;refine ZdP rfl (by rfl) 45 _ rfl (K+1) 0 rfl [.int .i64 0,.int .i64 0] _ (fun w' h=>Bx.range0 h.g) Tryz.underlying45 rfl (by kernel_rfl) ?_
   try simp only [Act.put,List.setIfInBounds_toArray,List.set_cons_zero,List.set_cons_succ]
   refine Zac rfl (by rfl) (fun KK hKK=> ?_)
   go_simp
   go_at_call 8
   refine(hbn _).mono ?_;rintro e w16 ⟨rfl,hb16⟩;have L16:=Lib.hid (L0.out.trans (hb16.mono L0.out.size));go_wp2_with fail
   refine hKK.out _ _ (TS.out.below L16.out) ?_;clear hKK KK
   try simp only [Act.put,List.setIfInBounds_toArray,List.set_cons_zero,List.set_cons_succ]
   iterate 3 (refine' ZW rfl (by rfl) _ (fun w' hSw=>_) _;rotate_left;(go_simp;try with_reducible rfl);try simp only [Act.put,List.setIfInBounds_toArray,List.set_cons_zero,List.set_cons_succ])
   refine ZdP rfl (by rfl) 36 _ rfl K 6 rfl [.int .u8 x.first.fl.toNat,.int .u64 (x.first.pos:Nat),.int .u32 (x.first.ser:Nat),.int .u32 (x.first.num:Nat),.string (B x.first.laces),.string (B x.first.body),.string (B x.v),.int .i64 7,.slice AP nu.length cP,.string (B x.setup),.slice AQ us.length cQ] _ (fun w' h=>Bx.mid h.t HTm.out) Tryz.underlying36 rfl (by kernel_rfl) ?_
   try simp only [Act.put,List.setIfInBounds_toArray,List.set_cons_zero,List.set_cons_succ]
   refine ZdP rfl (by rfl) 36 _ rfl w.heap.size 0 rfl [.int .u8 x.first.fl.toNat,.int .u64 (x.first.pos:Nat),.int .u32 (x.first.ser:Nat),.int .u32 (x.first.num:Nat),.string (B x.first.laces),.string (B x.first.body),.string (B x.v),.int .i64 vs,.slice AN x.ns.length cN,.string (B x.setup),.slice A x.sound.length c] _ (fun w' h=>Bx.range0 h.x) Tryz.underlying36 rfl (by kernel_rfl) ?_
   try simp only [Act.put,List.setIfInBounds_toArray,List.set_cons_zero,List.set_cons_succ]
   refine Zac rfl (by rfl) (fun KK hKK=> ?_)
   go_simp
   go_at_call 12
   refine(hOy _ L16.out).mono ?_;rintro e w17 ⟨ny,vy,rfl,hny,hry,hb17⟩;have L17:=Lib.hid (L16.out.trans (hb17.mono L16.out.size));obtain⟨AY,cY,hvy,hRY⟩:=RdN.of_rows Zg7 hry;obtain⟨AZ,cZ,hvz,hRZ⟩:=RdN.of_rows Zde hny;clear hry hny;subst hvy hvz;go_wp2_with fail
   refine hKK.out _ _ (TS.out.below L17.out) ?_;clear hKK KK
   try simp only [Act.put,List.setIfInBounds_toArray,List.set_cons_zero,List.set_cons_succ]
   refine Zac rfl (by rfl) (fun KK hKK=> ?_)
   go_simp
   go_at_call 12
   refine(hOx _ L17.out).mono ?_;rintro e w18 ⟨nx,vx,rfl,hnx,hrx,hb18⟩;have L18:=Lib.hid (L17.out.trans (hb18.mono L17.out.size));obtain⟨AX,cX,hvx,hRX⟩:=RdN.of_rows Zg7 hrx;obtain⟨AW,cW,hvw,hRW⟩:=RdN.of_rows Zde hnx;clear hrx hnx;subst hvx hvw;have hsm:=ZmH x.first x.v 7 vs nu x.ns x.setup us x.sound AZ AW AY AX cZ cW cY cX HUL2.out HUL.out HUS.out HSP.out w18 ((hRZ.below hb18).more hb18.size) hRW ((hRY.below hb18).more hb18.size) hRX;go_wp2_with fail
   refine hKK.out _ _ (TS.out.below L18.out) ?_;clear hKK KK
   try simp only [Act.put,List.setIfInBounds_toArray,List.set_cons_zero,List.set_cons_succ]
   refine Zac rfl (by rfl) (fun KK hKK=> ?_)
   go_simp
   go_at_call 11
   refine(hsm).mono ?_;rintro e w19 ⟨rfl,hb19⟩;have L19:=Lib.hid (L18.out.trans (hb19.mono L18.out.size));go_wp2_with fail
   refine hKK.out _ _ (TS.out.below L19.out) ?_;clear hKK KK
   try simp only [Act.put,List.setIfInBounds_toArray,List.set_cons_zero,List.set_cons_succ]
   iterate 7 (refine' ZW rfl (by rfl) _ (fun w' hSw=>_) _;rotate_left;(go_simp;try with_reducible rfl);try simp only [Act.put,List.setIfInBounds_toArray,List.set_cons_zero,List.set_cons_succ])
   refine ZdP rfl (by rfl) 45 _ rfl p 0 rfl [.int .i64 0,.int .i64 0] _ (fun w' h=>Bx.range0 h.p) Tryz.underlying45 rfl (by kernel_rfl) ?_
   try simp only [Act.put,List.setIfInBounds_toArray,List.set_cons_zero,List.set_cons_succ]
   refine Zac rfl (by rfl) (fun KK hKK=> ?_)
   go_simp
   go_at_call 8
   refine(hbn _).mono ?_;rintro e w20 ⟨rfl,hb20⟩;have L20:=Lib.hid (L19.out.trans (hb20.mono L19.out.size));go_wp2_with fail
   refine hKK.out _ _ (TS.out.below L20.out) ?_;clear hKK KK
   try simp only [Act.put,List.setIfInBounds_toArray,List.set_cons_zero,List.set_cons_succ]
   iterate 8 (refine' ZW rfl (by rfl) _ (fun w' hSw=>_) _;rotate_left;(go_simp;try with_reducible rfl);try simp only [Act.put,List.setIfInBounds_toArray,List.set_cons_zero,List.set_cons_succ])
   refine ZdP rfl (by rfl) 45 _ rfl q 0 rfl [.int .i64 0,.int .i64 0] _ (fun w' h=>Bx.range0 h.q) Tryz.underlying45 rfl (by kernel_rfl) ?_
   try simp only [Act.put,List.setIfInBounds_toArray,List.set_cons_zero,List.set_cons_succ]
   refine Zac rfl (by rfl) (fun KK hKK=> ?_)
   go_simp
   go_at_call 8
   refine(hbn _).mono ?_;rintro e w21 ⟨rfl,hb21⟩;have L21:=Lib.hid (L20.out.trans (hb21.mono L20.out.size));go_wp2_with fail
   refine hKK.out _ _ (TS.out.below L21.out) ?_;clear hKK KK
   try simp only [Act.put,List.setIfInBounds_toArray,List.set_cons_zero,List.set_cons_succ]
   iterate 3 (refine' ZW rfl (by rfl) _ (fun w' hSw=>_) _;rotate_left;(go_simp;try with_reducible rfl);try simp only [Act.put,List.setIfInBounds_toArray,List.set_cons_zero,List.set_cons_succ])
   refine ZbD ?_;go_wp2_with fail
   go_ret
   exact⟨rfl,LW.out.trans (L21.out.mono LW.out.size)⟩
 · rw [if_neg hck] at hpr;have hby:=fun(n a:Int) (hn:1≤n) wx=>Za5 n a (by omega) wx;go_wp2_with (first
    |(go_at_call 7;refine hpr.mono ?_;clear hpr;rintro e w4 ⟨hb4,n,a,hn1,rfl⟩;have hb5:=hby n a hn1;clear hby;have B4:=Lib.hid ((L3.out.trans (hb4.mono L3.out.size)).alloc (Nat.le_trans L3.out.size hb4.size) (.cells #[.int .i64 n,.int .i64 a] 45)))
    |(go_at_call 8;refine(hb5 _).mono ?_;clear hb5;rintro e w5 ⟨rfl,hb6⟩;have B5:=Lib.hid (B4.out.trans (hb6.mono B4.out.size));clear hb6))
   go_ret
   exact⟨rfl,B5.out⟩
end Go.Proofs.YtnbkfkbcpfkddaaGreatDoor
namespace Go.Proofs.YtnbkfkbcpfkddaaGreatDoor
open Go Go.RowKit Go.ChangeShapes Go.WideShapes Go.Deep
section
variable {H:Type} {enc:TypeId×Value→H} {w:World} {base:Nat} {spare:Nat→Bool} {held:Bool}
theorem Zpc {fuel:Nat} {cs:List Value} {x:DataW H×List MemPlace} (h:DataW.trod enc Tryz.prog w base spare held fuel 25 cs=some x):∃(fl:UInt8) (pos ser num:Nat),pos<18446744073709551616∧ser<4294967296∧num<4294967296∧cs=[.int .u8 fl.toNat,.int .u64 (pos:Nat),.int .u32 (ser:Nat),.int .u32 (num:Nat)]:=by
 obtain⟨xs,n,_,_,hl,hxl,hg⟩:=DataW.trod_struct Tryz.underlying25 h;have hC:Tryz.prog.cellsOf 25=4:=by kernel_rfl
 have hx:∀j,j<4→∃y,xs[j]? =some y:=fun j hj=>⟨_,List.getElem?_eq_getElem (by rw [hxl];exact hj)⟩
 obtain⟨y0,e0⟩:=hx 0 (by omega);have g0:=hg 0 _ rfl;rw [e0] at g0;obtain⟨y1,e1⟩:=hx 1 (by omega);have g1:=hg 1 _ rfl;rw [e1] at g1;obtain⟨y2,e2⟩:=hx 2 (by omega);have g2:=hg 2 _ rfl;rw [e2] at g2;obtain⟨y3,e3⟩:=hx 3 (by omega);have g3:=hg 3 _ rfl;rw [e3] at g3;rw [hC] at hl
 match cs,hl with
 |[c0,c1,c2,c3],_=>
  have o0:Tryz.prog.cellsOf 5=1:=by kernel_rfl
  change DataW.trod enc Tryz.prog w base spare held n 5 ((([c0,c1,c2,c3]:List Value).drop 0).take (Tryz.prog.cellsOf 5))=some y0 at g0
  rw [o0] at g0;change DataW.trod enc Tryz.prog w base spare held n 5 [c0]=some y0 at g0
  have o1:Tryz.prog.cellsOf 22=1:=by kernel_rfl
  change DataW.trod enc Tryz.prog w base spare held n 22 ((([c0,c1,c2,c3]:List Value).drop 1).take (Tryz.prog.cellsOf 22))=some y1 at g1
  rw [o1] at g1;change DataW.trod enc Tryz.prog w base spare held n 22 [c1]=some y1 at g1
  have o2:Tryz.prog.cellsOf 23=1:=by kernel_rfl
  change DataW.trod enc Tryz.prog w base spare held n 23 ((([c0,c1,c2,c3]:List Value).drop 2).take (Tryz.prog.cellsOf 23))=some y2 at g2
  rw [o2] at g2;change DataW.trod enc Tryz.prog w base spare held n 23 [c2]=some y2 at g2
  have o3:Tryz.prog.cellsOf 23=1:=by kernel_rfl
  change DataW.trod enc Tryz.prog w base spare held n 23 ((([c0,c1,c2,c3]:List Value).drop 3).take (Tryz.prog.cellsOf 23))=some y3 at g3
  rw [o3] at g3;change DataW.trod enc Tryz.prog w base spare held n 23 [c3]=some y3 at g3
  obtain⟨z0,d0,_,f0⟩:=DataW.trod_int Tryz.underlying5 g0;injection d0 with d0
  simp only [Lit.wf,Bool.and_eq_true,decide_eq_true_eq] at f0;obtain⟨z1,d1,_,f1⟩:=DataW.trod_int Tryz.underlying22 g1;injection d1 with d1
  simp only [Lit.wf,Bool.and_eq_true,decide_eq_true_eq] at f1;obtain⟨z2,d2,_,f2⟩:=DataW.trod_int Tryz.underlying23 g2;injection d2 with d2
  simp only [Lit.wf,Bool.and_eq_true,decide_eq_true_eq] at f2;obtain⟨z3,d3,_,f3⟩:=DataW.trod_int Tryz.underlying23 g3;injection d3 with d3
  simp only [Lit.wf,Bool.and_eq_true,decide_eq_true_eq] at f3;have a0:(0:Int)≤z0:=f0.1;have b0:z0≤(255:Int):=f0.2;have a1:(0:Int)≤z1:=f1.1;have b1:z1≤(18446744073709551615:Int):=f1.2;have a2:(0:Int)≤z2:=f2.1;have b2:z2≤(4294967295:Int):=f2.2;have a3:(0:Int)≤z3:=f3.1;have b3:z3≤(4294967295:Int):=f3.2;subst d0 d1 d2 d3;refine⟨UInt8.ofNat z0.toNat,z1.toNat,z2.toNat,z3.toNat,by omega,by omega,by omega,?_⟩;have e0:((UInt8.ofNat z0.toNat).toNat:Int)=z0:=by
   rw [UInt8.toNat_ofNat',Nat.mod_eq_of_lt (by omega)];omega
  rw [e0,Int.toNat_of_nonneg a1,Int.toNat_of_nonneg a2,Int.toNat_of_nonneg a3]
theorem Zkd {fuel:Nat} {cs:List Value} {x:DataW H×List MemPlace} (h:DataW.trod enc Tryz.prog w base spare held fuel 27 cs=some x):∃p:Pg,PgTy p∧cs=pgL p:=by
 obtain⟨xs,n,_,_,hl,hxl,hg⟩:=DataW.trod_struct Tryz.underlying27 h;have hC:Tryz.prog.cellsOf 27=6:=by kernel_rfl
 have hx:∀j,j<3→∃y,xs[j]? =some y:=fun j hj=>⟨_,List.getElem?_eq_getElem (by rw [hxl];exact hj)⟩
 obtain⟨y0,e0⟩:=hx 0 (by omega);have g0:=hg 0 _ rfl;rw [e0] at g0;obtain⟨y1,e1⟩:=hx 1 (by omega);have g1:=hg 1 _ rfl;rw [e1] at g1;obtain⟨y2,e2⟩:=hx 2 (by omega);have g2:=hg 2 _ rfl;rw [e2] at g2;rw [hC] at hl
 match cs,hl with
 |[c0,c1,c2,c3,c4,c5],_=>
  have o0:Tryz.prog.cellsOf 25=4:=by kernel_rfl
  change DataW.trod enc Tryz.prog w base spare held n 25 ((([c0,c1,c2,c3,c4,c5]:List Value).drop 0).take (Tryz.prog.cellsOf 25))=some y0 at g0
  rw [o0] at g0;change DataW.trod enc Tryz.prog w base spare held n 25 [c0,c1,c2,c3]=some y0 at g0
  have o1:Tryz.prog.cellsOf 9=1:=by kernel_rfl
  change DataW.trod enc Tryz.prog w base spare held n 9 ((([c0,c1,c2,c3,c4,c5]:List Value).drop 4).take (Tryz.prog.cellsOf 9))=some y1 at g1
  rw [o1] at g1;change DataW.trod enc Tryz.prog w base spare held n 9 [c4]=some y1 at g1
  have o2:Tryz.prog.cellsOf 9=1:=by kernel_rfl
  change DataW.trod enc Tryz.prog w base spare held n 9 ((([c0,c1,c2,c3,c4,c5]:List Value).drop 5).take (Tryz.prog.cellsOf 9))=some y2 at g2
  rw [o2] at g2;change DataW.trod enc Tryz.prog w base spare held n 9 [c5]=some y2 at g2
  obtain⟨fl,pos,ser,num,p1,p2,p3,d0⟩:=Zpc g0;obtain⟨s1,d1,_,_⟩:=DataW.trod_string Tryz.underlying9 g1;obtain⟨s2,d2,_,_⟩:=DataW.trod_string Tryz.underlying9 g2;injection d0 with d0 d0r
  injection d0r with d3 d0r
  injection d0r with d4 d0r
  injection d0r with d5
  injection d1 with d1
  injection d2 with d2
  subst d0 d1 d2 d3 d4 d5;refine⟨⟨fl,pos,ser,num,s1.data.toList,s2.data.toList⟩,⟨p1,p2,p3⟩,?_⟩;unfold pgL;rw [←Zca s1,←Zca s2]
theorem Zpf {fuel:Nat} {cs:List Value} {x:DataW H×List MemPlace} (h:DataW.trod enc Tryz.prog w base spare held fuel 34 cs=some x):
 ∃(A:Option Addr) (c:Nat) (l:List Pg),cs=[.slice A l.length c]∧l.length≤maxLen∧RdN 6 pgL w w.heap.size A l∧∀p∈l,PgTy p:=by
 have hC:Tryz.prog.cellsOf 27=6:=by kernel_rfl
 rcases open_slice Tryz.underlying34 h with⟨hc,_⟩|⟨a,len,cap,m,n,D,Pl,hc,_,hle,hcm,hm,_,hall⟩
 · exact⟨none,0,[],hc,by decide,Reads.none_,fun p hp=>by cases hp⟩
 · have hlm:len≤m:=by rw [hm];split<;>omega
   rw [hC] at hall;obtain⟨l,hl,hR⟩:=ZfW (R:=fun i (p:Pg)=>PgTy p∧∀j,j<6→w.cell? (a.add (i*6+j))=(pgL p)[j]?) len fun i hi=>by
    obtain⟨cs',h1,h2⟩:=hall i (by omega);obtain⟨_,h3,h4⟩:=World.cells?_some h1;obtain⟨p,hp,rfl⟩:=Zkd h2;refine⟨p,hp,fun j hj=> ?_⟩;have h5:=h4 j hj;rw [Go.Deep.add_add] at h5;exact h5
   subst hl;exact⟨some a,cap,l,hc,by omega,ZkL 6 pgL Zb2 (by omega) fun i p hi=>(hR i p hi).2,fun p hp=>by
    obtain⟨i,hi⟩:=List.mem_iff_getElem?.1 hp;exact(hR i p hi).1⟩
theorem Zpb {fuel:Nat} {cs:List Value} {x:DataW H×List MemPlace} (h:DataW.trod enc Tryz.prog w base spare held fuel 33 cs=some x):∃(v:List UInt8) (vs:Int) (ns:List Nx) (AN:Option Addr) (cN:Nat),cs=[.string (B v),.int .i64 vs,.slice AN ns.length cN]∧ns.length≤maxLen∧RdN 3 nxV w w.heap.size AN ns:=by
 obtain⟨xs,n,_,_,hl,hxl,hg⟩:=DataW.trod_struct Tryz.underlying33 h;have hC:Tryz.prog.cellsOf 33=3:=by kernel_rfl
 have hx:∀j,j<2→∃y,xs[j]? =some y:=fun j hj=>⟨_,List.getElem?_eq_getElem (by rw [hxl];exact hj)⟩
 obtain⟨y0,e0⟩:=hx 0 (by omega);have g0:=hg 0 _ rfl;rw [e0] at g0;obtain⟨y1,e1⟩:=hx 1 (by omega);have g1:=hg 1 _ rfl;rw [e1] at g1;rw [hC] at hl
 match cs,hl with
 |[c0,c1,c2],_=>
  have o0:Tryz.prog.cellsOf 30=2:=by kernel_rfl
  change DataW.trod enc Tryz.prog w base spare held n 30 ((([c0,c1,c2]:List Value).drop 0).take (Tryz.prog.cellsOf 30))=some y0 at g0
  rw [o0] at g0;change DataW.trod enc Tryz.prog w base spare held n 30 [c0,c1]=some y0 at g0
  have o1:Tryz.prog.cellsOf 31=1:=by kernel_rfl
  change DataW.trod enc Tryz.prog w base spare held n 31 ((([c0,c1,c2]:List Value).drop 2).take (Tryz.prog.cellsOf 31))=some y1 at g1
  rw [o1] at g1;change DataW.trod enc Tryz.prog w base spare held n 31 [c2]=some y1 at g1
  obtain⟨s1,v2,d0⟩:=Zkc g0;obtain⟨AN,cN,ns,d1,hn,hN⟩:=Zpd g1;injection d0 with d0 d0r
  injection d0r with d2
  injection d1 with d1
  subst d0 d1 d2;exact⟨s1.data.toList,v2,ns,AN,cN,by rw [←Zca s1],hn,hN⟩
theorem Zpg {fuel:Nat} {cs:List Value} {x:DataW H×List MemPlace} (h:DataW.trod enc Tryz.prog w base spare held fuel 36 cs=some x):∃(y:Sx),SxTy y∧∃(vs:Int) (A AN:Option Addr) (c cN:Nat),cs=(stV y.first y.v vs (.slice AN y.ns.length cN) y.setup (.slice A y.sound.length c)).toList∧y.sound.length≤maxLen∧y.ns.length≤maxLen∧RdN 6 pgL w w.heap.size A y.sound∧RdN 3 nxV w w.heap.size AN y.ns:=by
 obtain⟨xs,n,_,_,hl,hxl,hg⟩:=DataW.trod_struct Tryz.underlying36 h;have hC:Tryz.prog.cellsOf 36=11:=by kernel_rfl
 have hx:∀j,j<4→∃y,xs[j]? =some y:=fun j hj=>⟨_,List.getElem?_eq_getElem (by rw [hxl];exact hj)⟩
 obtain⟨y0,e0⟩:=hx 0 (by omega);have g0:=hg 0 _ rfl;rw [e0] at g0;obtain⟨y1,e1⟩:=hx 1 (by omega);have g1:=hg 1 _ rfl;rw [e1] at g1;obtain⟨y2,e2⟩:=hx 2 (by omega);have g2:=hg 2 _ rfl;rw [e2] at g2;obtain⟨y3,e3⟩:=hx 3 (by omega);have g3:=hg 3 _ rfl;rw [e3] at g3;rw [hC] at hl
 match cs,hl with
 |[c0,c1,c2,c3,c4,c5,c6,c7,c8,c9,c10],_=>
  have o0:Tryz.prog.cellsOf 27=6:=by kernel_rfl
  change DataW.trod enc Tryz.prog w base spare held n 27 ((([c0,c1,c2,c3,c4,c5,c6,c7,c8,c9,c10]:List Value).drop 0).take (Tryz.prog.cellsOf 27))=some y0 at g0
  rw [o0] at g0;change DataW.trod enc Tryz.prog w base spare held n 27 [c0,c1,c2,c3,c4,c5]=some y0 at g0
  have o1:Tryz.prog.cellsOf 33=3:=by kernel_rfl
  change DataW.trod enc Tryz.prog w base spare held n 33 ((([c0,c1,c2,c3,c4,c5,c6,c7,c8,c9,c10]:List Value).drop 6).take (Tryz.prog.cellsOf 33))=some y1 at g1
  rw [o1] at g1;change DataW.trod enc Tryz.prog w base spare held n 33 [c6,c7,c8]=some y1 at g1
  have o2:Tryz.prog.cellsOf 9=1:=by kernel_rfl
  change DataW.trod enc Tryz.prog w base spare held n 9 ((([c0,c1,c2,c3,c4,c5,c6,c7,c8,c9,c10]:List Value).drop 9).take (Tryz.prog.cellsOf 9))=some y2 at g2
  rw [o2] at g2;change DataW.trod enc Tryz.prog w base spare held n 9 [c9]=some y2 at g2
  have o3:Tryz.prog.cellsOf 34=1:=by kernel_rfl
  change DataW.trod enc Tryz.prog w base spare held n 34 ((([c0,c1,c2,c3,c4,c5,c6,c7,c8,c9,c10]:List Value).drop 10).take (Tryz.prog.cellsOf 34))=some y3 at g3
  rw [o3] at g3;change DataW.trod enc Tryz.prog w base spare held n 34 [c10]=some y3 at g3
  obtain⟨p,hp,d0⟩:=Zkd g0;obtain⟨v,vs,ns,AN,cN,d1,hn,hN⟩:=Zpb g1;obtain⟨s2,d2,_,_⟩:=DataW.trod_string Tryz.underlying9 g2;obtain⟨A,c,l,d3,hm,hR,hT⟩:=Zpf g3;have e0:[c0,c1,c2,c3,c4,c5,c6,c7,c8,c9,c10]=[c0,c1,c2,c3,c4,c5]++[c6,c7,c8]++[c9]++[c10]:=rfl;rw [e0,d0,d1,d2,d3];exact⟨⟨p,v,ns,s2.data.toList,l⟩,⟨hp,hT⟩,vs,A,AN,c,cN,by rw [Zca s2];rfl,hm,hn,hR,hN⟩
end
end Go.Proofs.YtnbkfkbcpfkddaaGreatDoor
