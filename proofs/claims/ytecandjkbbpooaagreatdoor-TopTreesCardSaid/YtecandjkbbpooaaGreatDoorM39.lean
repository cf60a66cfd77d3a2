/- Lemmas for a statement on the tops; conditions: as each says. -/
import Derived.Test.YtecandjkbbpooaaGreatDoorM38
set_option linter.unusedVariables false
set_option linter.unusedSimpArgs false
set_option maxRecDepth 100000
set_option maxHeartbeats 1000000
namespace Go.Proofs.YtecandjkbbpooaaGreatDoor
open Go Go.RowKit
theorem ZfB {P:Program} {ops:Array Oper} {rest:List Oper} {o:Oper} {a:Act} {w:World} {Q:Exit→Act→World→Prop} (hgd:o.guard=none)(ty:TypeId)(x y:Operand)(ho:o.op= .store ty x y)
 (g:Nat) (Z T:Array Value) (hx:a.eval x= .pointer (some ⟨g,0,none⟩)) (hy:a.eval y= .agg T) (hb:Bx w g Z ty) (hi:(P.info? ty).map (·.size)=some T.size) (hold:Z.size=T.size) (h1:T.all (·.oneCell')=true)
 (h:∀W,Bx W g T ty→But g w.heap.size w W→wpList P ops Q rest (a.put o.dst undef) W):wpList P ops Q (o::rest) a w:=
 wpList_store_row hgd ty x y ho g T hx hy ty Z hb hi hold h1 (h _ (hb.row T) (ZpF T))
theorem Zna {P:Program} {ops:Array Oper} {rest:List Oper} {o:Oper} {a:Act} {w:World} {Q:Exit→Act→World→Prop} (hgd:o.guard=none)(ty:TypeId)(x y:Operand)(ho:o.op= .store ty x y)
 (Z T:Array Value) (hx:a.eval x= .pointer (some ⟨w.heap.size,0,none⟩)) (hy:a.eval y= .agg T) (hi:(P.info? ty).map (·.size)=some T.size) (hold:Z.size=T.size) (h1:T.all (·.oneCell')=true)
 (h:∀W,Bx W w.heap.size T ty→Below w.heap.size w W→wpList P ops Q rest (a.put o.dst undef) W):wpList P ops Q (o::rest) a (w.alloc (.cells Z ty)):=
 wpList_store_row hgd ty x y ho w.heap.size T hx hy ty Z (Bx.new w Z ty) hi hold h1 (h _ ((Bx.new w Z ty).row T) (ZfV ((Below.refl _ _).alloc (Nat.le_refl _) _) (Nat.le_refl _) T))
structure PgSt (w wx:World)(F:Nat)(OA:Array Value):Prop where
 o:Bx wx w.heap.size OA 28
 z:Bx wx (w.heap.size+1) (T67 0 0 0 0 (.slice none 0 0) []) 59
 f:Bx wx F #[.int .i64 0,.int .i64 0] 62
 low:Below w.heap.size w wx
 hF:w.heap.size+1<F
theorem PgSt.below {w wx wy:World} {F:Nat} {OA:Array Value} (h:PgSt w wx F OA)(hb:Below wx.heap.size wx wy):PgSt w wy F OA:=⟨h.o.below hb,h.z.below hb,h.f.below hb,h.low.trans (hb.mono h.low.size),h.hF⟩
theorem PgSt.new (w:World)(OA:Array Value):PgSt w (((w.alloc (.cells OA 28)).alloc (.cells (T67 0 0 0 0 (.slice none 0 0) []) 59)).alloc (.cells #[.int .i64 0,.int .i64 0] 62)) (w.heap.size+1+1) OA:=by
 refine⟨((Bx.new w _ _).alloc _).alloc _,?_,?_,(((Below.refl _ _).alloc (Nat.le_refl _) _).alloc (by simp) _).alloc (by simp;omega) _,by omega⟩
 · have:=(Bx.new (w.alloc (.cells OA 28)) (T67 0 0 0 0 (.slice none 0 0) []) 59).alloc (.cells #[.int .i64 0,.int .i64 0] 62);rw [World.size_alloc] at this;exact this
 · have:=Bx.new ((w.alloc (.cells OA 28)).alloc (.cells (T67 0 0 0 0 (.slice none 0 0) []) 59)) #[.int .i64 0,.int .i64 0] 62;rw [World.size_alloc,World.size_alloc] at this;exact this
structure PhSt (w wx:World)(F C1:Nat)(OA HA:Array Value):Prop where
 s:PgSt w wx F OA
 h:Bx wx C1 HA 84
theorem PhSt.below {w wx wy:World} {F C1:Nat} {OA HA:Array Value} (h:PhSt w wx F C1 OA HA)(hb:Below wx.heap.size wx wy):PhSt w wy F C1 OA HA:=⟨h.s.below hb,h.h.below hb⟩
theorem PhSt.cells {w wx:World} {F C1:Nat} {a0 a1 a2 a3 b0 b1 b2 b3:Value} (h:PhSt w wx F C1 #[a0,a1,a2,a3] #[b0,b1,b2,b3]):
 (wx.cell? ⟨w.heap.size,0,none⟩=some a0∧wx.cell? ⟨w.heap.size,1,none⟩=some a1∧wx.cell? ⟨w.heap.size,2,none⟩=some a2∧wx.cell? ⟨w.heap.size,3,none⟩=some a3)∧
 (wx.cell? ⟨C1,0,none⟩=some b0∧wx.cell? ⟨C1,1,none⟩=some b1∧wx.cell? ⟨C1,2,none⟩=some b2∧wx.cell? ⟨C1,3,none⟩=some b3):=
 ⟨⟨h.s.o.cell 0,h.s.o.cell 1,h.s.o.cell 2,h.s.o.cell 3⟩,h.h.cell 0,h.h.cell 1,h.h.cell 2,h.h.cell 3⟩
def PgRel (w2:World)(v:Nat)(rev fl:UInt8)(sound:List UInt8)(its:List It)(i:Value)(wr:World):Prop:=
 ∃(k:Nat) (xs:List (It×Value)) (vl:Value),k≤its.length∧i= .int .i64 k∧Hid (xs.map (·.1)=its.take k)∧Below w2.heap.size w2 wr∧Bx wr w2.heap.size (T67 0 v rev fl vl sound) 59∧
  wr.ownsRow (w2.heap.size+1) 37 7 vl xs.length (xs.flatMap itV)∧(xs=[]→vl= .slice none 0 0)∧Hid (∀x∈xs,Zi piL (w2.heap.size+1) wr x.2 x.1.ps)
structure RdSt (wr wx:World)(FA IA:Array Value):Prop where
 fr:Bx wx wr.heap.size FA 34
 it:Bx wx (wr.heap.size+1) IA 37
 low:Below wr.heap.size wr wx
theorem RdSt.below {wr wx wy:World} {FA IA:Array Value} (h:RdSt wr wx FA IA)(hb:Below wx.heap.size wx wy):RdSt wr wy FA IA:=⟨h.fr.below hb,h.it.below hb,h.low.trans (hb.mono h.low.size)⟩
theorem RdSt.alloc {wr wx:World} {FA IA:Array Value} (h:RdSt wr wx FA IA)(o:Obj):RdSt wr (wx.alloc o) FA IA:=h.below ((Below.refl _ _).alloc (Nat.le_refl _) _)
theorem RdSt.put {wr wx:World} {FA IA:Array Value} (h:RdSt wr wx FA IA)(j:Nat)(v:Value):RdSt wr (wx.setCell ⟨wr.heap.size+1,j,none⟩ v) FA (IA.setIfInBounds j v):=
 ⟨h.fr.set (by omega) j v,h.it.put j v,h.low.setCell (by show wr.heap.size≤wr.heap.size+1;omega) v⟩
theorem RdSt.new (wr:World)(FA IA:Array Value):RdSt wr ((wr.alloc (.cells FA 34)).alloc (.cells IA 37)) FA IA:=
 ⟨(Bx.new wr _ _).alloc _,by have:=Bx.new (wr.alloc (.cells FA 34)) IA 37;rw [World.size_alloc] at this;exact this,((Below.refl _ _).alloc (Nat.le_refl _) _).alloc (by simp) _⟩
theorem RdSt.cells {wr wx:World} {x0 x1 x2 x3 x4 x5 y0 y1 y2 y3 y4 y5 y6:Value} (h:RdSt wr wx #[x0,x1,x2,x3,x4,x5] #[y0,y1,y2,y3,y4,y5,y6]):
 (wx.cell? ⟨wr.heap.size,0,none⟩=some x0∧wx.cell? ⟨wr.heap.size,1,none⟩=some x1∧wx.cell? ⟨wr.heap.size,2,none⟩=some x2∧wx.cell? ⟨wr.heap.size,3,none⟩=some x3∧wx.cell? ⟨wr.heap.size,4,none⟩=some x4∧wx.cell? ⟨wr.heap.size,5,none⟩=some x5)∧
 (wx.cell? ⟨wr.heap.size+1,0,none⟩=some y0∧wx.cell? ⟨wr.heap.size+1,1,none⟩=some y1∧wx.cell? ⟨wr.heap.size+1,2,none⟩=some y2∧wx.cell? ⟨wr.heap.size+1,3,none⟩=some y3∧wx.cell? ⟨wr.heap.size+1,4,none⟩=some y4∧wx.cell? ⟨wr.heap.size+1,5,none⟩=some y5∧wx.cell? ⟨wr.heap.size+1,6,none⟩=some y6)∧
 wx.frozen? ⟨wr.heap.size+1,4,none⟩=false∧wx.frozen? ⟨wr.heap.size+1,6,none⟩=false:=
 ⟨⟨h.fr.cell 0,h.fr.cell 1,h.fr.cell 2,h.fr.cell 3,h.fr.cell 4,h.fr.cell 5⟩,⟨h.it.cell 0,h.it.cell 1,h.it.cell 2,h.it.cell 3,h.it.cell 4,h.it.cell 5,h.it.cell 6⟩,h.it.free 4,h.it.free 6⟩
theorem Zl0 {w2 wr W W6:World} {v:Nat} {rev fl:UInt8} {sound:List UInt8} {its:List It} {k:Nat} {xs:List (It×Value)} {vl v6 s:Value} {it:It} (hk:its[k]? =some it)(hxs:xs.map (·.1)=its.take k)
 (hl:Below w2.heap.size w2 wr) (hbt:Bx wr w2.heap.size (T67 0 v rev fl vl sound) 59) (hown:wr.ownsRow (w2.heap.size+1) 37 7 vl xs.length (xs.flatMap itV)) (hnil:xs=[]→vl= .slice none 0 0)
 (hps:∀x∈xs,Zi piL (w2.heap.size+1) wr x.2 x.1.ps) (hW:Below wr.heap.size wr W) (hrow:Zi piL (w2.heap.size+1) W s it.ps)
 (HO:W6.ownsRow (w2.heap.size+1) 37 7 v6 (xs++[(it,s)]).length ((xs++[(it,s)]).flatMap itV)) (hb:Below (w2.heap.size+1) W W6) (hg:W.grownBy W6 vl.ownBlock):
 PgRel w2 v rev fl sound its (.int .i64 ((k+1:Nat):Int)) (W6.setCell ⟨w2.heap.size,4,none⟩ v6):=by
 have hkl:k<its.length:=(List.getElem?_eq_some_iff.1 hk).1;have hWs:=hW.size;have hBW:Bx W6 w2.heap.size (T67 0 v rev fl vl sound) 59:=(hb.block _ (by omega)).trans (hbt.below hW);have oW:=ZE hown hW;refine⟨k+1,xs++[(it,s)],v6,by omega,rfl,Lib.hid ?_,?_,?_,?_,fun h=>absurd h (by simp),Lib.hid ?_⟩
 · rw [List.map_append,hxs,List.take_add_one,hk];rfl
 · exact((hl.trans (hW.mono hl.size)).trans (hb.mono (by omega))).setCell (Nat.le_refl _) _
 · have:=hBW.put 4 v6;rw [t67_it] at this;exact this
 · exact Zdn HO ((But.refl w2.heap.size _ _).setCell (p:=⟨w2.heap.size,4,none⟩) (.inr rfl) v6) (Nat.lt_succ_self _)
 · intro x hx;rcases List.mem_append.1 hx with h|h
   · exact Zi.set (Zl1 oW hnil hg ((hps x h).below hW)) (Nat.lt_succ_self _) 4 v6
   · simp only [List.mem_singleton] at h;subst h;exact Zi.set (Zl1 oW hnil hg hrow) (Nat.lt_succ_self _) 4 v6
theorem Zgr {w:World} {base:Nat} {e:TypeId} {size:Nat} {v:Value} {n:Nat} {xs:List Value} (h:w.ownsRow base e size v n xs):∃A n c,v= .slice A n c:=by obtain⟨_,A,c,h,_⟩:=ZaL h;exact⟨A,_,c,h⟩
theorem ZsR {α:Type} {f:α→List Value} {B0:Nat} {w:World} {v:Value} {l:List α} (h:Zi f B0 w v l):∃A n c,v= .slice A n c:=by obtain⟨A,c,h,_⟩:=h.len;exact⟨A,_,c,h⟩
theorem Zon (file:List UInt8)(hl:file.length≤900000000)(kd bud:Int)(fb:Nat)(det:Bool)(v:Nat)(rev fl:UInt8)(fs:List Fr)(sound:List UInt8)(its:List It)
 (hp:Zbf file= .ok (some ⟨v,rev,fl,fs⟩,sound)∨(Zbf file= .ok (none,sound)∧v=0∧rev=0∧fl=0∧fs=[]))
 (hfs:fs.length≤4096) (hb:∀f∈fs,f.id.length≤100000∧f.body.length≤100000)
 (hfp0:∀f∈fs,Zd v f.id≠[]→∀w,Grd w→Calls Tryz.prog 44 #[.int .i64 v,.string (B f.id),.string (B f.body),.agg #[.int .i64 kd,.int .i64 fb,.bool det,.int .i64 bud]] w (Zd9 (Zcf (wdF fb det) v f.id f.body) w))
 (hi:its.length=fs.length∧∀(k:Nat) (f:Fr) (it:It),fs[k]? =some f→its[k]? =some it→ZcU (wdF fb det) v f=some it) (w:World) (hG:Grd w):
 Calls Tryz.prog 19 #[.string (B file),.agg #[.int .i64 kd,.int .i64 fb,.bool det,.int .i64 bud]] w fun e w'=>
  ∃vi,e= .returned (.tuple #[.agg (T67 0 v rev fl vi sound),.agg #[.int .i64 0,.int .i64 0]])∧Zaw w.heap.size w' vi its∧Below w.heap.size w w':=by
 have htp:∀wx,Calls Tryz.prog 41 #[.string (B file)] wx fun e w'=>∃A c,e= .returned (.tuple #[.agg #[.int .i64 v,.int .u8 rev.toNat,.int .u8 fl.toNat,.slice A fs.length c],.string (B sound),.agg #[.int .i64 0,.int .i64 0]])∧Zi frV wx.heap.size w' (.slice A fs.length c) fs∧Below wx.heap.size wx w':=by
  intro wx;refine(ZoZ file hl wx).mono ?_;rintro e w' ⟨h1,h2⟩;rcases hp with hp|⟨hp,rfl,rfl,rfl,rfl⟩
  · rw [hp] at h2;obtain⟨vl,rfl,h3⟩:=h2;obtain⟨A,c,hv,hc⟩:=h3.len;subst hv;exact⟨A,c,rfl,h3,h1⟩
  · rw [hp] at h2;subst h2;exact⟨none,0,rfl,.inl ⟨rfl,rfl⟩,h1⟩
 have hbd:=fun w=>ZT 0 0 rfl w;have G0:=Lib.hid hG;have HI:=Lib.hid hi;have HB:=Lib.hid hb;have HF0:=Lib.hid hfp0;have S0:=Lib.hid (PgSt.new w #[.int .i64 kd,.int .i64 fb,.bool det,.int .i64 bud]);clear hp hi hb hfp0;go_enter Tryz.func19,Tryz.ntmps19
 go_upto_region 1 with fail
 generalize hW:(((w.alloc _).alloc _).alloc _)=W0;have S1:Hid (PgSt w W0 (w.heap.size+1+1) #[.int .i64 kd,.int .i64 fb,.bool det,.int .i64 bud]):=Lib.hid (by rw [←hW];exact S0.out);clear S0 hW;generalize w.heap.size+1+1=F at*;go_upto_region 4 with(first
  |(go_at_call 41;refine(htp _).mono ?_;clear htp;rintro e w1 ⟨A,c,rfl,hr,hb1⟩;have S2:=Lib.hid (S1.out.below hb1);have R2:=Lib.hid hr;clear hr hb1 S1)
  |(go_at_call 7;refine(hbd _).mono ?_;rintro e w2 ⟨rfl,hb2⟩;have S3:Hid (PhSt w w2 F w1.heap.size _ _):=Lib.hid (PhSt.below ⟨(S2.out.below ((Below.refl _ _).alloc (Nat.le_refl _) _)).below ((Below.refl _ _).alloc (Nat.le_refl _) _),(Bx.new w1 #[.int .i64 v,.int .u8 rev.toNat,.int .u8 fl.toNat,.slice A fs.length c] _).alloc _⟩ hb2);have R3:=Lib.hid (((R2.out.below ((Below.refl _ _).alloc (Nat.le_refl _) _)).below ((Below.refl _ _).alloc (Nat.le_refl _) _)).below hb2);clear hb2 S2 R2;obtain⟨⟨o0,o1,o2,o3⟩,h0,h1,h2,h3⟩:=S3.out.cells))
 have Hrow:Hid (∀(k:Nat) (f:Fr),fs[k]? =some f→∃bk,A=some ⟨bk,0,none⟩∧bk<w2.heap.size∧∀j u,(fs.flatMap frV)[j]? =some u→w2.cell? ⟨bk,j,none⟩=some u):=Lib.hid (by
  intro k f hk;rcases R3.out with⟨h0,_⟩|⟨bk,c',h0,h1,h2,h5,h3,h4⟩
  · rw [h0] at hk;simp at hk
  · simp only [Value.slice.injEq] at h1;exact⟨bk,h1.1,h3,h4⟩)
 clear R3;have hC1:w1.heap.size<w2.heap.size:=S3.out.h.lt;generalize w1.heap.size=C1 at*;go_upto_region 5 with(first
  |(refine ZgO rfl 59 _ rfl (T67 0 v rev fl (.slice none 0 0) sound) (by kernel_rfl) ?_)
  |(refine Zna rfl 59 _ _ rfl _ (T67 0 v rev fl (.slice none 0 0) sound) rfl rfl (by kernel_rfl) rfl (ZcG _ _ _ _ _ _ rfl) fun W0 bW hW=> ?_;have S4:=Lib.hid (S3.out.below hW);have B4:=Lib.hid bW;have W4:=Lib.hid hW;clear bW hW o0 o1 o2 o3 h0 h1 h2 h3;obtain⟨⟨o0,o1,o2,o3⟩,h0,h1,h2,h3⟩:=S4.out.cells))
 go_wp2_with fail
 go_loopw [32] (fun i wr=>PgRel w2 v rev fl sound its i wr) (fun i _=>its.length - (intOf i).toNat)
 case atStart=>exact⟨0,[],.slice none 0 0,Nat.zero_le _,rfl,Lib.hid rfl,W4.out,B4.out,⟨rfl,.inl ⟨rfl,rfl⟩⟩,fun _=>rfl,Lib.hid (fun x hx=>by simp at hx)⟩
 case round=>
  obtain⟨k,xs,vl,hk,rfl,hxs,hlow,hbt,hown,hnil,hps⟩:=hrel;have L:=Lib.hid hlow;have BT:=Lib.hid hbt;have OW:=Lib.hid hown;have NL:=Lib.hid hnil;have SR:=Lib.hid (S3.out.below hlow);have hK9:w2.heap.size+1≤wr.heap.size:=hbt.lt;have hC2:C1<wr.heap.size:=by omega
  have hw9:w2.heap.size<wr.heap.size:=by omega
  have hww:w.heap.size<wr.heap.size:=SR.out.s.o.lt;have hlen:=HI.out.1;obtain⟨_,A9,c9,hv9,hc9⟩:=ZaL hown;have hxl:xs.length≤4096:=by have:=congrArg List.length hxs.out;simp at this;omega
  subst hv9;clear hlow hbt hown hnil o0 o1 o2 o3 h0 h1 h2 h3 W4 B4 S4;obtain⟨⟨o0,o1,o2,o3⟩,h0,h1,h2,h3⟩:=SR.out.cells;by_cases hlt:k<its.length
  · obtain⟨f,hf⟩:∃f,fs[k]? =some f:=⟨_,List.getElem?_eq_getElem (by omega)⟩
    obtain⟨it,hik⟩:∃it,its[k]? =some it:=⟨_,List.getElem?_eq_getElem hlt⟩
    have hit:=HI.out.2 k f it hf hik;obtain⟨bk,hA,hbk,hcl⟩:=Hrow.out k f hf;obtain⟨y0,y1,y2,y3,y4,y5⟩:=Zi.at6 (w:=wr) (fun j u hu=>(L.out.cell (p:=⟨bk,j,none⟩) hbk).trans (hcl j u hu)) hf;have hmem:=HB.out f (List.mem_of_getElem? hf);have hff:=HF0.out f (List.mem_of_getElem? hf);have hkn:=fun w=>ZeR v f hmem.1 w;have hbk2:bk<wr.heap.size:=by omega
    have hkf:k<fs.length:=by omega
    have Hik:=Lib.hid hik;subst hA;clear hf hik hcl;by_cases hl0:Zd v f.id=[]
    · rw [decide_eq_true hl0,Bool.not_true] at hkn;have hie:it=⟨f,[]⟩:=by
       unfold ZcU at hit;rw [if_pos hl0] at hit;exact(Option.some.inj hit).symm
      subst hie;clear hl0 hit hmem hff;go_upto_region 17 with(go_at_call 42;refine(hkn _).mono ?_;clear hkn;rintro e w3 ⟨rfl,hb3⟩;have R3:=Lib.hid ((RdSt.new wr _ _).below hb3);clear hb3)
      obtain⟨⟨x0,x1,x2,x3,x4,x5⟩,⟨z0,z1,z2,z3,z4,z5,z6⟩,fz4,fz6⟩:=R3.out.cells;have B3:=Lib.hid (BT.out.below R3.out.low);have b4:w3.cell? ⟨w2.heap.size,4,none⟩=some (.slice A9 xs.length c9):=by rw [B3.out.cell 4];rfl
      go_wp2_with (at_builtin;refine ZjX rfl _ _ rfl (w2.heap.size+1) (.slice A9 xs.length c9) xs rfl w3 (⟨f,[]⟩,.slice none 0 0) _ rfl rfl (ZE OW.out R3.out.low) (by have:=R3.out.low.size;omega) (by omega) rfl ?_;intro v6 w6 HO6 hb6 hg6;obtain⟨A6,n6,c6,hv6⟩:=Zgr HO6.out;subst hv6;have B6:Hid (Bx w6 w2.heap.size (T67 0 v rev fl (.slice A9 xs.length c9) sound) 59):=Lib.hid ((hb6.block _ (Nat.lt_succ_self _)).trans B3.out);have b6:w6.cell? ⟨w2.heap.size,4,none⟩=some (.slice A9 xs.length c9):=(by rw [B6.out.cell 4];rfl);have f6:=B6.out.free 4)
      have NX:=Lib.hid (Zl0 Hik.out hxs.out L.out BT.out OW.out NL.out hps.out R3.out.low (.inl ⟨rfl,rfl⟩) HO6.out hb6 hg6);clear hb6 hg6 b4 b6 f6;go_roundw
      case rel=>exact NX.out
      case measure=>simp [intOf];omega
    · rw [decide_eq_false hl0,Bool.not_false] at hkn;have hlk:=fun w=>Zdc (B f.id) f.st f.fm v w;have hfp:=hff hl0;obtain⟨ps,hie,hfd,hlo⟩:∃ps,it=⟨{f with body:=[]},ps.map ZcB⟩∧Zcf (wdF fb det) v f.id f.body= .ok ps∧ZJ v f.fm=false:=by
       unfold ZcU at hit;rw [if_neg hl0] at hit;by_cases hlo:ZJ v f.fm=true
       · rw [if_pos hlo] at hit;cases hit
       · rw [if_neg hlo] at hit;cases hq:Zcf (wdF fb det) v f.id f.body with
         |error x=>rw [hq] at hit;cases hit
         |ok ps=>rw [hq] at hit;exact⟨ps,(Option.some.inj hit).symm,rfl,by simpa using hlo⟩
      rw [hfd] at hfp;rw [Int.toNat_natCast,hlo] at hlk;unfold Zd9 at hfp;subst hie;clear hl0 hit hmem hfd hlo hff;go_upto_region 12 with(first
       |(go_at_call 42;refine(hkn _).mono ?_;clear hkn;rintro e w3 ⟨rfl,hb3⟩;have R3:=Lib.hid ((RdSt.new wr _ _).below hb3);clear hb3;obtain⟨⟨x0,x1,x2,x3,x4,x5⟩,⟨z0,z1,z2,z3,z4,z5,z6⟩,fz4,fz6⟩:=R3.out.cells;obtain⟨_,h0,h1,h2,h3⟩:=(SR.out.below R3.out.low).cells)
       |(go_at_call 43;refine(hlk _).mono ?_;clear hlk;rintro e w4 ⟨rfl,hb4⟩;have R4:=Lib.hid (R3.out.below hb4);clear hb4 R3 x0 x1 x2 x3 x4 x5 z0 z1 z2 z3 z4 z5 z6 fz4 fz6;obtain⟨⟨x0,x1,x2,x3,x4,x5⟩,⟨z0,z1,z2,z3,z4,z5,z6⟩,fz4,fz6⟩:=R4.out.cells;obtain⟨⟨o0,o1,o2,o3⟩,h0,h1,h2,h3⟩:=(SR.out.below R4.out.low).cells))
      have G4:=Lib.hid ((G0.out.below SR.out.s.low).below R4.out.low);go_upto_region 15 with(first
       |(go_at_call 44;refine(hfp _ G4.out).mono ?_;clear hfp;rintro e w5 ⟨hb5,v5,rfl,hr5⟩;obtain⟨A5,pn,c5,hv5⟩:=ZsR hr5;subst hv5;have R5:=Lib.hid (R4.out.below hb5);have Q5:=Lib.hid hr5;clear hb5 hr5 x0 x1 x2 x3 x4 x5 z0 z1 z2 z3 z4 z5 z6 fz4 fz6)
       |(go_at_call 7;refine(hbd _).mono ?_;rintro e w6 ⟨rfl,hb6⟩;have R6:=Lib.hid ((R5.out.alloc _).below hb6);have Q6:=Lib.hid ((Q5.out.below ((Below.refl _ _).alloc (Nat.le_refl _) _)).below hb6);clear hb6;obtain⟨⟨x0,x1,x2,x3,x4,x5⟩,⟨z0,z1,z2,z3,z4,z5,z6⟩,fz4,fz6⟩:=R6.out.cells))
      go_upto_region 17 with fail
      have R7:=Lib.hid ((R6.out.put 4 (.string ⟨#[]⟩)).put 6 (.slice A5 pn c5));have Q7:Hid (Zi piL (w2.heap.size+1) ((w6.setCell ⟨wr.heap.size+1,4,none⟩ (.string ⟨#[]⟩)).setCell ⟨wr.heap.size+1,6,none⟩ (.slice A5 pn c5)) (.slice A5 pn c5) (ps.map ZcB)):=Lib.hid ((ZsP (Zi.set (Zi.set Q6.out (by have:=R4.out.it.lt;omega) 4 _) (by have:=R4.out.it.lt;omega) 6 _)).low (by have:=R4.out.it.lt;omega));clear Q6 R6 Q5 R5 x0 x1 x2 x3 x4 x5 z0 z1 z2 z3 z4 z5 z6 fz4 fz6;generalize ((w6.setCell ⟨wr.heap.size+1,4,none⟩ (.string ⟨#[]⟩)).setCell ⟨wr.heap.size+1,6,none⟩ (.slice A5 pn c5))=w7 at*;obtain⟨⟨x0,x1,x2,x3,x4,x5⟩,⟨z0,z1,z2,z3,z4,z5,z6⟩,fz4,fz6⟩:=R7.out.cells;have B3:=Lib.hid (BT.out.below R7.out.low);have b4:w7.cell? ⟨w2.heap.size,4,none⟩=some (.slice A9 xs.length c9):=by rw [B3.out.cell 4];rfl
      go_wp2_with (at_builtin;refine ZjX rfl _ _ rfl (w2.heap.size+1) (.slice A9 xs.length c9) xs rfl w7 (⟨{f with body:=[]},ps.map ZcB⟩,.slice A5 pn c5) _ rfl rfl (ZE OW.out R7.out.low) (by have:=R7.out.low.size;omega) (by omega) rfl ?_;intro v8 w8 HO6 hb6 hg6;obtain⟨A6,n6,c6,hv6⟩:=Zgr HO6.out;subst hv6;have B6:Hid (Bx w8 w2.heap.size (T67 0 v rev fl (.slice A9 xs.length c9) sound) 59):=Lib.hid ((hb6.block _ (Nat.lt_succ_self _)).trans B3.out);have b6:w8.cell? ⟨w2.heap.size,4,none⟩=some (.slice A9 xs.length c9):=(by rw [B6.out.cell 4];rfl);have f6:=B6.out.free 4)
      have NX:=Lib.hid (Zl0 Hik.out hxs.out L.out BT.out OW.out NL.out hps.out R7.out.low Q7.out HO6.out hb6 hg6);clear hb6 hg6 b4 b6 f6;go_roundw
      case rel=>exact NX.out
      case measure=>simp [intOf];omega
  · have hkl:k=its.length:=by omega
    subst hkl;have hxs2:xs.map (·.1)=its:=by rw [hxs.out,List.take_length]
    have hFl:=SR.out.s.f.lt;have hF:=SR.out.s.hF;go_wp2_with (first
     |(refine wpList_load_row rfl 59 _ rfl w2.heap.size rfl 59 (T67 0 v rev fl (.slice A9 xs.length c9) sound) (0,0) _ BT.out Tryz.underlying59 rfl (by kernel_rfl) ?_)
     |(refine ZfB rfl 59 _ _ rfl (w.heap.size+1) (T67 0 0 0 0 (.slice none 0 0) []) (T67 0 v rev fl (.slice A9 xs.length c9) sound) rfl rfl SR.out.s.z (by kernel_rfl) rfl (ZcG _ _ _ _ _ _ rfl) fun W bW hW=> ?_;have BW:=Lib.hid bW;have HW:=Lib.hid hW;have FW:=Lib.hid (SR.out.s.f.but hW (by omega));have e0:=FW.out.cell 0;have e1:=FW.out.cell 1;have g0:=FW.out.free 0;have g1:=FW.out.free 1;clear bW hW))
    have FX:=Za9 FW.out (.int .i64 0) (.int .i64 0);have TX:=(BW.out.set (k:=F) (by omega) 0 (.int .i64 0)).set (k:=F) (by omega) 1 (.int .i64 0);refine bodyPost_ret (Ziq rfl _ _ (w.heap.size+1) F _ _ _ _ _ _ _ _ rfl rfl TX FX Tryz.underlying59 rfl (by kernel_rfl) Tryz.underlying62 rfl (by kernel_rfl)) rfl ⟨_,rfl,?_,?_⟩
    · have hF2:F<w2.heap.size:=S3.out.s.f.lt;refine⟨xs,hxs2,?_,fun x hx=> ?_⟩
      · exact((((Zi.of_own rfl OW.out NL.out).but HW.out (by omega)).set (g:=F) (by omega) 0 _).set (g:=F) (by omega) 1 _).low (by omega)
      · exact((((hps.out x hx).but HW.out (by omega)).set (g:=F) (by omega) 0 _).set (g:=F) (by omega) 1 _).low (by omega)
    · exact((SR.out.s.low.trans ((HW.out.mono SR.out.s.low.size).below (by omega))).setCell (p:=⟨F,0,none⟩) (by show w.heap.size≤F;omega) _).setCell (p:=⟨F,1,none⟩) (by show w.heap.size≤F;omega) _
structure PtSt (w wx:World)(H:Nat)(T HA:Array Value):Prop where
 t:Bx wx w.heap.size T 59
 f:Bx wx (w.heap.size+1) #[.int .i64 0,.int .i64 0] 62
 h:Bx wx H HA 84
 low:Below w.heap.size w wx
 hH:w.heap.size+1<H
theorem PtSt.below {w wx wy:World} {H:Nat} {T HA:Array Value} (h:PtSt w wx H T HA)(hb:Below wx.heap.size wx wy):PtSt w wy H T HA:=⟨h.t.below hb,h.f.below hb,h.h.below hb,h.low.trans (hb.mono h.low.size),h.hH⟩
theorem PtSt.low3 {w wx wy:World} {H:Nat} {T HA:Array Value} (h:PtSt w wx H T HA)(hb:Below (H+1) wx wy):PtSt w wy H T HA:=
 ⟨(hb.block _ (by have:=h.hH;omega)).trans h.t,(hb.block _ (by have:=h.hH;omega)).trans h.f,(hb.block _ (by omega)).trans h.h,h.low.trans (hb.mono (by have:=h.hH;omega)),h.hH⟩
theorem PtSt.alloc {w wx:World} {H:Nat} {T HA:Array Value} (h:PtSt w wx H T HA)(o:Obj):PtSt w (wx.alloc o) H T HA:=h.below ((Below.refl _ _).alloc (Nat.le_refl _) _)
theorem PtSt.put {w wx:World} {H:Nat} {T HA:Array Value} (h:PtSt w wx H T HA)(j:Nat)(v:Value):PtSt w (wx.setCell ⟨H,j,none⟩ v) H T (HA.setIfInBounds j v):=
 ⟨h.t.set (by have:=h.hH;omega) j v,h.f.set (by have:=h.hH;omega) j v,h.h.put j v,h.low.setCell (by show w.heap.size≤H;have:=h.hH;omega) v,h.hH⟩
theorem PtSt.new (w:World)(T HA:Array Value):PtSt w (((w.alloc (.cells T 59)).alloc (.cells #[.int .i64 0,.int .i64 0] 62)).alloc (.cells HA 84)) (w.heap.size+1+1) T HA:=by
 refine⟨((Bx.new w _ _).alloc _).alloc _,?_,?_,(((Below.refl _ _).alloc (Nat.le_refl _) _).alloc (by simp) _).alloc (by simp;omega) _,by omega⟩
 · have:=(Bx.new (w.alloc (.cells T 59)) #[.int .i64 0,.int .i64 0] 62).alloc (.cells HA 84);rw [World.size_alloc] at this;exact this
 · have:=Bx.new ((w.alloc (.cells T 59)).alloc (.cells #[.int .i64 0,.int .i64 0] 62)) HA 84;rw [World.size_alloc,World.size_alloc] at this;exact this
theorem PtSt.cells {w wx:World} {H:Nat} {T:Array Value} {b0 b1 b2 b3:Value} {a1 a2 a3 a4 a5:Value} (h:PtSt w wx H T #[b0,b1,b2,b3])(h1:T[1]? =some a1)(h2:T[2]? =some a2)(h3:T[3]? =some a3)(h4:T[4]? =some a4)(h5:T[5]? =some a5):
 (wx.cell? ⟨w.heap.size,1,none⟩=some a1∧wx.cell? ⟨w.heap.size,2,none⟩=some a2∧wx.cell? ⟨w.heap.size,3,none⟩=some a3∧wx.cell? ⟨w.heap.size,4,none⟩=some a4∧wx.cell? ⟨w.heap.size,5,none⟩=some a5)∧
 (wx.cell? ⟨H,0,none⟩=some b0∧wx.cell? ⟨H,1,none⟩=some b1∧wx.cell? ⟨H,2,none⟩=some b2∧wx.cell? ⟨H,3,none⟩=some b3∧wx.frozen? ⟨H,3,none⟩=false)∧
 (wx.cell? ⟨w.heap.size+1,0,none⟩=some (.int .i64 0)∧wx.cell? ⟨w.heap.size+1,1,none⟩=some (.int .i64 0)∧wx.frozen? ⟨w.heap.size+1,0,none⟩=false∧wx.frozen? ⟨w.heap.size+1,1,none⟩=false)∧H<wx.heap.size:=
 ⟨⟨by rw [h.t.cell 1];exact h1,by rw [h.t.cell 2];exact h2,by rw [h.t.cell 3];exact h3,by rw [h.t.cell 4];exact h4,by rw [h.t.cell 5];exact h5⟩,
  ⟨h.h.cell 0,h.h.cell 1,h.h.cell 2,h.h.cell 3,h.h.free 3⟩,⟨h.f.cell 0,h.f.cell 1,h.f.free 0,h.f.free 1⟩,h.h.lt⟩
structure PpSt (w wx:World)(F K:Nat)(OA T FA:Array Value):Prop where
 s:PgSt w wx F OA
 t:Bx wx K T 59
 e:Bx wx (K+1) FA 62
 lt:F<K
theorem PpSt.below {w wx wy:World} {F K:Nat} {OA T FA:Array Value} (h:PpSt w wx F K OA T FA)(hb:Below wx.heap.size wx wy):PpSt w wy F K OA T FA:=⟨h.s.below hb,h.t.below hb,h.e.below hb,h.lt⟩
theorem PpSt.put2 {w wx:World} {F K:Nat} {OA T:Array Value} {x y:Value} (h:PpSt w wx F K OA T #[x,y])(a b:Value):PpSt w ((wx.setCell ⟨K+1,0,none⟩ a).setCell ⟨K+1,1,none⟩ b) F K OA T #[a,b]:=by
 have h1:=h.lt;have h2:=h.s.hF;exact⟨⟨(h.s.o.set (by omega) 0 a).set (by omega) 1 b,(h.s.z.set (by omega) 0 a).set (by omega) 1 b,(h.s.f.set (by omega) 0 a).set (by omega) 1 b,(h.s.low.setCell (by show w.heap.size≤K+1;omega) a).setCell (by show w.heap.size≤K+1;omega) b,h2⟩,
  (h.t.set (by omega) 0 a).set (by omega) 1 b,Za9 h.e a b,h1⟩
theorem PpSt.butK {w wx wy:World} {F K:Nat} {OA T T2 FA:Array Value} (h:PpSt w wx F K OA T FA)(hb:But K wx.heap.size wx wy)(ht:Bx wy K T2 59):PpSt w wy F K OA T2 FA:=by
 have h1:=h.lt;have h2:=h.s.hF;exact⟨⟨h.s.o.but hb (by omega),h.s.z.but hb (by omega),h.s.f.but hb (by omega),h.s.low.trans ((hb.mono h.s.low.size).below (by omega)),h2⟩,ht,h.e.but hb (by omega),h1⟩
theorem PpSt.kind {w wx:World} {F K:Nat} {OA FA:Array Value} {kd k2:Int} {v:Nat} {rev fl:UInt8} {it:Value} {s:List UInt8} (h:PpSt w wx F K OA (T67 kd v rev fl it s) FA):PpSt w (wx.setCell ⟨K,0,none⟩ (.int .i64 k2)) F K OA (T67 k2 v rev fl it s) FA:=by
 have:=h.t.put 0 (.int .i64 k2);rw [t67_kd] at this;exact h.butK ((But.refl K _ wx).setCell (p:=⟨K,0,none⟩) (.inr rfl) _) this
theorem PpSt.cells {w wx:World} {F K:Nat} {a0 a1 a2 a3 e0 e1:Value} {T:Array Value} (h:PpSt w wx F K #[a0,a1,a2,a3] T #[e0,e1]):
 (wx.cell? ⟨w.heap.size,0,none⟩=some a0∧wx.cell? ⟨w.heap.size,1,none⟩=some a1∧wx.cell? ⟨w.heap.size,2,none⟩=some a2∧wx.cell? ⟨w.heap.size,3,none⟩=some a3)∧
 (wx.cell? ⟨K+1,0,none⟩=some e0∧wx.cell? ⟨K+1,1,none⟩=some e1∧wx.frozen? ⟨K+1,0,none⟩=false∧wx.frozen? ⟨K+1,1,none⟩=false)∧
 (wx.cell? ⟨F,0,none⟩=some (.int .i64 0)∧wx.cell? ⟨F,1,none⟩=some (.int .i64 0)∧wx.frozen? ⟨F,0,none⟩=false∧wx.frozen? ⟨F,1,none⟩=false):=
 ⟨⟨h.s.o.cell 0,h.s.o.cell 1,h.s.o.cell 2,h.s.o.cell 3⟩,⟨h.e.cell 0,h.e.cell 1,h.e.free 0,h.e.free 1⟩,h.s.f.cell 0,h.s.f.cell 1,h.s.f.free 0,h.s.f.free 1⟩
theorem Zaw.but {B0 C:Nat} {w w':World} {v:Value} {l:List It} (h:Zaw B0 w v l)(hb:But C w.heap.size w w')(hC:C<B0):Zaw B0 w' v l:=by
 obtain⟨xs,h1,h2,h3⟩:=h;exact⟨xs,h1,h2.but hb hC,fun x hx=>(h3 x hx).but hb hC⟩
theorem Zaw.set {B0:Nat} {w:World} {v:Value} {l:List It} (h:Zaw B0 w v l){g:Nat} (hg:g<B0)(j:Nat)(u:Value):Zaw B0 (w.setCell ⟨g,j,none⟩ u) v l:=by
 obtain⟨xs,h1,h2,h3⟩:=h;exact⟨xs,h1,h2.set hg j u,fun x hx=>(h3 x hx).set hg j u⟩
theorem Zgh {B0:Nat} {w:World} {v:Value} {l:List It} (h:Zaw B0 w v l):∃A n c,v= .slice A n c:=by obtain⟨A,c,h,_⟩:=h.len;exact⟨A,_,c,h⟩
theorem ZnD (b:ByteArray)(kd fb bud:Int)(det:Bool)(v:Nat)(rev fl:UInt8)(sound:List UInt8)(its:List It)(w:World)
 (hk:kd=1∨kd=0∧∀wx,Below w.heap.size w wx→Calls Tryz.prog 18 #[.string b] wx fun e w'=>e= .returned (.tuple #[.int .i64 1,.bool true])∧Below wx.heap.size wx w')
 (hp:∀wx,Below w.heap.size w wx→Calls Tryz.prog 19 #[.string b,.agg #[.int .i64 kd,.int .i64 fb,.bool det,.int .i64 bud]] wx fun e w'=>∃vi,e= .returned (.tuple #[.agg (T67 0 v rev fl vi sound),.agg #[.int .i64 0,.int .i64 0]])∧Zaw wx.heap.size w' vi its∧Below wx.heap.size wx w'):
 Calls Tryz.prog 8 #[.string b,.agg #[.int .i64 kd,.int .i64 fb,.bool det,.int .i64 bud]] w fun e w'=>∃vi,e= .returned (.tuple #[.agg (T67 1 v rev fl vi sound),.agg #[.int .i64 0,.int .i64 0]])∧Zaw w.heap.size w' vi its∧Below w.heap.size w w':=by
 have hbd:=fun w=>ZT 0 0 rfl w;have S0:=Lib.hid (PgSt.new w #[.int .i64 kd,.int .i64 fb,.bool det,.int .i64 bud]);rcases hk with rfl|⟨rfl,hsn⟩
 · go_enter Tryz.func8,Tryz.ntmps8
   go_upto_region 1 with fail
   generalize hW:(((w.alloc _).alloc _).alloc _)=W0;have S1:Hid (PgSt w W0 (w.heap.size+1+1) _):=Lib.hid (by rw [←hW];exact S0.out);clear S0 hW;generalize w.heap.size+1+1=F at*;have o0:=S1.out.o.cell 0;have o1:=S1.out.o.cell 1;have o2:=S1.out.o.cell 2;have o3:=S1.out.o.cell 3;have hF:=S1.out.hF;have S2:=S1;clear S1;clear o1 o2 o3;go_upto_region 7 with fail
   go_upto_region 8 with(first
    |(refine ZgO rfl 59 _ rfl (T67 0 0 0 0 (.slice none 0 0) []) (by kernel_rfl) ?_)
    |(refine ZgP rfl 59 _ _ rfl _ _ (T67 0 0 0 0 (.slice none 0 0) []) 62 rfl rfl (by kernel_rfl) rfl (ZcG _ _ _ _ _ _ rfl) fun W3 b3 b4 b5=> ?_;have S3:Hid (PpSt w W3 F _ _ _ _):=Lib.hid ⟨S2.out.below b5,b3,b4,S2.out.f.lt⟩;clear b3 b4 b5;obtain⟨⟨o0,o1,o2,o3⟩,⟨e0,e1,g0,g1⟩,⟨f0,f1,h0,h1⟩⟩:=S3.out.cells))
   generalize W0.heap.size=K at*;have S4:=Lib.hid (S3.out.put2 (.int .i64 5) (.int .i64 0));clear S3 S2 o0 o1 o2 o3 e0 e1 g0 g1 f0 f1 h0 h1;generalize ((W3.setCell ⟨K+1,0,none⟩ (.int .i64 5)).setCell ⟨K+1,1,none⟩ (.int .i64 0))=W4 at*;have hp4:=hp W4 S4.out.s.low;have hK4:=S4.out.t.lt;have hK6:=S4.out.e.lt;have hFK:=S4.out.lt;clear hp;obtain⟨⟨o0,o1,o2,o3⟩,⟨e0,e1,g0,g1⟩,⟨f0,f1,h0,h1⟩⟩:=S4.out.cells;go_upto_region 20 with(first
    |(go_at_call 19;refine hp4.mono ?_;clear hp4;rintro e w5 ⟨vi,rfl,hit,hb5⟩;obtain⟨A,n,c,hv⟩:=Zgh hit;subst hv;have S5:=Lib.hid (S4.out.below hb5);have I5:=Lib.hid hit;clear hit hb5 S4 o0 o1 o2 o3 e0 e1 g0 g1 f0 f1 h0 h1)
    |(refine ZfB rfl 59 _ _ rfl K (T67 0 0 0 0 (.slice none 0 0) []) (T67 0 v rev fl (.slice A n c) sound) rfl rfl S5.out.t (by kernel_rfl) rfl (ZcG _ _ _ _ _ _ rfl) fun W6 b6 h6=> ?_;have I6:=Lib.hid (I5.out.but h6 hK4);have S6:=Lib.hid (S5.out.butK h6 b6);clear b6 h6 S5 I5;obtain⟨⟨o0,o1,o2,o3⟩,⟨e0,e1,g0,g1⟩,⟨f0,f1,h0,h1⟩⟩:=S6.out.cells))
   have S7:=Lib.hid (S6.out.put2 (.int .i64 0) (.int .i64 0));have I7:=Lib.hid ((I6.out.set hK6 0 (.int .i64 0)).set hK6 1 (.int .i64 0));clear S6 I6 o0 o1 o2 o3 e0 e1 g0 g1 f0 f1 h0 h1;generalize ((W6.setCell ⟨K+1,0,none⟩ (.int .i64 0)).setCell ⟨K+1,1,none⟩ (.int .i64 0))=W7 at*;obtain⟨⟨o0,o1,o2,o3⟩,⟨e0,e1,g0,g1⟩,⟨f0,f1,h0,h1⟩⟩:=S7.out.cells;go_upto_region 22 with(go_at_call 7;refine(hbd _).mono ?_;rintro e w8 ⟨rfl,hb8⟩;have S8:=Lib.hid (S7.out.below hb8);have I8:=Lib.hid (I7.out.below hb8);clear hb8 S7 I7 o0 o1 o2 o3 e0 e1 g0 g1 f0 f1 h0 h1)
   have t0:=S8.out.t.cell 0;rw [show(T67 0 v rev fl (.slice A n c) sound)[0]? =some (.int .i64 0) from rfl] at t0;have tf:=S8.out.t.free 0;go_upto_region 23 with fail
   have S9:=Lib.hid (S8.out.kind (k2:=1));have I9:=Lib.hid (I8.out.set hK4 0 (.int .i64 1));clear S8 I8 t0 tf;generalize (w8.setCell ⟨K,0,none⟩ (.int .i64 1))=W9 at*;have hF9:=S9.out.s.hF;have hw9:=S9.out.s.o.lt;go_wp2_with (first
    |(refine wpList_load_row rfl 59 _ rfl K rfl 59 (T67 1 v rev fl (.slice A n c) sound) (0,0) _ S9.out.t Tryz.underlying59 rfl (by kernel_rfl) ?_)
    |(refine ZfB rfl 59 _ _ rfl (w.heap.size+1) (T67 0 0 0 0 (.slice none 0 0) []) (T67 1 v rev fl (.slice A n c) sound) rfl rfl S9.out.s.z (by kernel_rfl) rfl (ZcG _ _ _ _ _ _ rfl) fun W bW hW=> ?_;have BW:=Lib.hid bW;have HW:=Lib.hid hW;have FW:=Lib.hid (S9.out.s.f.but hW (by omega));have e0:=FW.out.cell 0;have e1:=FW.out.cell 1;have g0:=FW.out.free 0;have g1:=FW.out.free 1;clear bW hW))
   have FX:=Za9 FW.out (.int .i64 0) (.int .i64 0);have TX:=(BW.out.set (k:=F) (by omega) 0 (.int .i64 0)).set (k:=F) (by omega) 1 (.int .i64 0);refine bodyPost_ret (Ziq rfl _ _ (w.heap.size+1) F _ _ _ _ _ _ _ _ rfl rfl TX FX Tryz.underlying59 rfl (by kernel_rfl) Tryz.underlying62 rfl (by kernel_rfl)) rfl ⟨_,rfl,?_,?_⟩
   · exact(((I9.out.but HW.out (by omega)).set (g:=F) (by omega) 0 _).set (g:=F) (by omega) 1 _).low (by omega)
   · exact((S9.out.s.low.trans ((HW.out.mono S9.out.s.low.size).below (by omega))).setCell (p:=⟨F,0,none⟩) (by show w.heap.size≤F;omega) _).setCell (p:=⟨F,1,none⟩) (by show w.heap.size≤F;omega) _
 · go_enter Tryz.func8,Tryz.ntmps8
   go_upto_region 1 with fail
   generalize hW:(((w.alloc _).alloc _).alloc _)=W0;have S1:Hid (PgSt w W0 (w.heap.size+1+1) _):=Lib.hid (by rw [←hW];exact S0.out);clear S0 hW;generalize w.heap.size+1+1=F at*;have o0:=S1.out.o.cell 0;have o1:=S1.out.o.cell 1;have o2:=S1.out.o.cell 2;have o3:=S1.out.o.cell 3;have hF:=S1.out.hF;go_upto_region 7 with(go_at_call 18;refine(hsn _ S1.out.low).mono ?_;clear hsn;rintro e w1 ⟨rfl,hb1⟩;have S2:=Lib.hid (S1.out.below hb1);clear hb1 S1 o0 o1 o2 o3)
   go_upto_region 8 with(first
    |(refine ZgO rfl 59 _ rfl (T67 0 0 0 0 (.slice none 0 0) []) (by kernel_rfl) ?_)
    |(refine ZgP rfl 59 _ _ rfl _ _ (T67 0 0 0 0 (.slice none 0 0) []) 62 rfl rfl (by kernel_rfl) rfl (ZcG _ _ _ _ _ _ rfl) fun W3 b3 b4 b5=> ?_;have S3:Hid (PpSt w W3 F _ _ _ _):=Lib.hid ⟨S2.out.below b5,b3,b4,S2.out.f.lt⟩;clear b3 b4 b5;obtain⟨⟨o0,o1,o2,o3⟩,⟨e0,e1,g0,g1⟩,⟨f0,f1,h0,h1⟩⟩:=S3.out.cells))
   generalize w1.heap.size=K at*;have S4:=Lib.hid (S3.out.put2 (.int .i64 5) (.int .i64 0));clear S3 S2 o0 o1 o2 o3 e0 e1 g0 g1 f0 f1 h0 h1;generalize ((W3.setCell ⟨K+1,0,none⟩ (.int .i64 5)).setCell ⟨K+1,1,none⟩ (.int .i64 0))=W4 at*;have hp4:=hp W4 S4.out.s.low;have hK4:=S4.out.t.lt;have hK6:=S4.out.e.lt;have hFK:=S4.out.lt;clear hp;obtain⟨⟨o0,o1,o2,o3⟩,⟨e0,e1,g0,g1⟩,⟨f0,f1,h0,h1⟩⟩:=S4.out.cells;go_upto_region 20 with(first
    |(go_at_call 19;refine hp4.mono ?_;clear hp4;rintro e w5 ⟨vi,rfl,hit,hb5⟩;obtain⟨A,n,c,hv⟩:=Zgh hit;subst hv;have S5:=Lib.hid (S4.out.below hb5);have I5:=Lib.hid hit;clear hit hb5 S4 o0 o1 o2 o3 e0 e1 g0 g1 f0 f1 h0 h1)
    |(refine ZfB rfl 59 _ _ rfl K (T67 0 0 0 0 (.slice none 0 0) []) (T67 0 v rev fl (.slice A n c) sound) rfl rfl S5.out.t (by kernel_rfl) rfl (ZcG _ _ _ _ _ _ rfl) fun W6 b6 h6=> ?_;have I6:=Lib.hid (I5.out.but h6 hK4);have S6:=Lib.hid (S5.out.butK h6 b6);clear b6 h6 S5 I5;obtain⟨⟨o0,o1,o2,o3⟩,⟨e0,e1,g0,g1⟩,⟨f0,f1,h0,h1⟩⟩:=S6.out.cells))
   have S7:=Lib.hid (S6.out.put2 (.int .i64 0) (.int .i64 0));have I7:=Lib.hid ((I6.out.set hK6 0 (.int .i64 0)).set hK6 1 (.int .i64 0));clear S6 I6 o0 o1 o2 o3 e0 e1 g0 g1 f0 f1 h0 h1;generalize ((W6.setCell ⟨K+1,0,none⟩ (.int .i64 0)).setCell ⟨K+1,1,none⟩ (.int .i64 0))=W7 at*;obtain⟨⟨o0,o1,o2,o3⟩,⟨e0,e1,g0,g1⟩,⟨f0,f1,h0,h1⟩⟩:=S7.out.cells;go_upto_region 22 with(go_at_call 7;refine(hbd _).mono ?_;rintro e w8 ⟨rfl,hb8⟩;have S8:=Lib.hid (S7.out.below hb8);have I8:=Lib.hid (I7.out.below hb8);clear hb8 S7 I7 o0 o1 o2 o3 e0 e1 g0 g1 f0 f1 h0 h1)
   have t0:=S8.out.t.cell 0;rw [show(T67 0 v rev fl (.slice A n c) sound)[0]? =some (.int .i64 0) from rfl] at t0;have tf:=S8.out.t.free 0;go_upto_region 23 with fail
   have S9:=Lib.hid (S8.out.kind (k2:=1));have I9:=Lib.hid (I8.out.set hK4 0 (.int .i64 1));clear S8 I8 t0 tf;generalize (w8.setCell ⟨K,0,none⟩ (.int .i64 1))=W9 at*;have hF9:=S9.out.s.hF;have hw9:=S9.out.s.o.lt;go_wp2_with (first
    |(refine wpList_load_row rfl 59 _ rfl K rfl 59 (T67 1 v rev fl (.slice A n c) sound) (0,0) _ S9.out.t Tryz.underlying59 rfl (by kernel_rfl) ?_)
    |(refine ZfB rfl 59 _ _ rfl (w.heap.size+1) (T67 0 0 0 0 (.slice none 0 0) []) (T67 1 v rev fl (.slice A n c) sound) rfl rfl S9.out.s.z (by kernel_rfl) rfl (ZcG _ _ _ _ _ _ rfl) fun W bW hW=> ?_;have BW:=Lib.hid bW;have HW:=Lib.hid hW;have FW:=Lib.hid (S9.out.s.f.but hW (by omega));have e0:=FW.out.cell 0;have e1:=FW.out.cell 1;have g0:=FW.out.free 0;have g1:=FW.out.free 1;clear bW hW))
   have FX:=Za9 FW.out (.int .i64 0) (.int .i64 0);have TX:=(BW.out.set (k:=F) (by omega) 0 (.int .i64 0)).set (k:=F) (by omega) 1 (.int .i64 0);refine bodyPost_ret (Ziq rfl _ _ (w.heap.size+1) F _ _ _ _ _ _ _ _ rfl rfl TX FX Tryz.underlying59 rfl (by kernel_rfl) Tryz.underlying62 rfl (by kernel_rfl)) rfl ⟨_,rfl,?_,?_⟩
   · exact(((I9.out.but HW.out (by omega)).set (g:=F) (by omega) 0 _).set (g:=F) (by omega) 1 _).low (by omega)
   · exact((S9.out.s.low.trans ((HW.out.mono S9.out.s.low.size).below (by omega))).setCell (p:=⟨F,0,none⟩) (by show w.heap.size≤F;omega) _).setCell (p:=⟨F,1,none⟩) (by show w.heap.size≤F;omega) _
end Go.Proofs.YtecandjkbbpooaaGreatDoor
