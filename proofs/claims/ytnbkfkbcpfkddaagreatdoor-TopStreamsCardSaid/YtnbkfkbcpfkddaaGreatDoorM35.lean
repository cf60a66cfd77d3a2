/- Lemmas for a statement on the tops; conditions: as each says. -/
import Derived.Test.YtnbkfkbcpfkddaaGreatDoorM31
import Derived.Test.YtnbkfkbcpfkddaaGreatDoorM33
set_option linter.unusedVariables false
set_option linter.unusedSimpArgs false
set_option maxRecDepth 100000
set_option maxHeartbeats 4000000
namespace Go.Proofs.YtnbkfkbcpfkddaaGreatDoor
open Go Go.RowKit
def ntV (n:Nt):List Value:=[.string (B n.name),.string (B n.leaf.text),.int .i64 (n.leaf.set:Nat)]
theorem ZoW:(Tryz.prog.info? 91).map (fun i=>(i.zero,i.size,i.bytes))=some (some (.agg #[.string ⟨#[]⟩,.string ⟨#[]⟩,.int .i64 0]),3,40):=by kernel_rfl
theorem ZfX {o:Oper} {a:Act} {K:Act→World→Prop} {Q:Exit→Act→World→Prop} (s x:Operand)(ho:o.op= .call {callee:= .builtin .append,args:=#[s,x],argTypes:=#[31,31]}) (base:Nat) (v:Value) (L:List Nt) (hs:a.eval s=v) (W:World) (f:Nt)
 (hown:W.ownsRow base 91 3 v L.length (L.flatMap ntV)) (hbase:base≤W.heap.size) (hlen:L.length≤16777216) (hx:a.eval x= .slice (some ⟨W.heap.size,0,none⟩) 1 1)
 (h:∀v' w',Hid (w'.ownsRow base 91 3 v' (L++[f]).length ((L++[f]).flatMap ntV))→Below base W w'→K (a.put o.dst v') w'):
 o.wp Tryz.prog a (W.alloc (.cells #[.string (B f.name),.string (B f.leaf.text),.int .i64 (f.leaf.set:Nat)] 91)) K Q:=by
 obtain⟨i0,hi,iz0,iz1,iz2⟩:=info_parts ZoW;refine wp_append_own _ s x 31 ho base 91 i0 _ 3 40 Tryz.underlying31 hi iz0 iz1 iz2 rfl (by decide) v L.length _ hs (hown.alloc _) ⟨W.heap.size,0,none⟩ 1 1 (ntV f) hx rfl (Zco W (ntV f) _) ?_ (by unfold maxLen;omega) (by omega) (by simp;omega) ?_
 · intro u hu;simp only [ntV,List.mem_cons,List.not_mem_nil,or_false] at hu;rcases hu with rfl|rfl|rfl<;>rfl
 · intro v6 w6 hown6 hg6 _;refine h v6 w6 (Lib.hid ?_) (Z3 ((Below.refl _ W).alloc hbase _) (hown.alloc _) hg6 (by simp;omega) (Nat.le_refl _));rw [List.flatMap_append,List.length_append];simpa [ntV] using hown6
structure CbSt (w0 wx:World)(K G:Nat)(SA:Array Value)(v:Lf)(ns:List Nt)(vl:Value)(s:InS):Prop where
 res:Bx wx (w0.heap.size+1) #[.string ⟨#[]⟩,.int .i64 0,.slice none 0 0] 33
 sc:Bx wx G SA 192
 bb:Bx wx (G+1) #[.string (B v.text),.int .i64 (v.set:Nat),vl] 33
 own:wx.ownsRow (G+2) 91 3 vl ns.length (ns.flatMap ntV)
 nil_:ns=[]→vl= .slice none 0 0
 inn:InAt wx K s
 but:But K w0.heap.size w0 wx
 hK:K<w0.heap.size
 hG:w0.heap.size+2≤G
section
variable {w0 w w':World} {K G:Nat} {SA:Array Value} {v:Lf} {ns:List Nt} {vl:Value} {s s':InS}
theorem CbSt.below (h:CbSt w0 w K G SA v ns vl s)(hb:Below w.heap.size w w'):CbSt w0 w' K G SA v ns vl s:=
 ⟨h.res.below hb,h.sc.below hb,h.bb.below hb,Zo h.own hb,h.nil_,h.inn.below hb,h.but.trans (.of (hb.mono h.but.size)),h.hK,h.hG⟩
theorem CbSt.butK (h:CbSt w0 w K G SA v ns vl s)(hi:InAt w' K s')(hb:But K w.heap.size w w'):CbSt w0 w' K G SA v ns vl s':=
 ⟨h.res.but hb (by have:=h.hK;omega),h.sc.but hb (by have:=h.hK;have:=h.hG;omega),h.bb.but hb (by have:=h.hK;have:=h.hG;omega),Zb0 h.own hb (by have:=h.hK;have:=h.hG;omega),h.nil_,hi,h.but.trans (hb.mono h.but.size),h.hK,h.hG⟩
theorem CbSt.drewN (h:CbSt w0 w K G SA v ns vl s)(n:Nat):CbSt w0 (w.drewN n) K G SA v ns vl s:=h.below (below_drewN (Below.refl _ _) n)
end
def ZdT (lf:List UInt8→Except (Nat×Nat) Lf):InS→List Nt→InS→Prop
 |s,[],s'=>s=s'
 |s,n::l,s'=>∃s1,ZbE lf s=(n,s1)∧s1.e=0∧ZdT lf s1 l s'
def Zfw (w:World)(K:Nat)(v:Lf)(ns:List Nt)(s:InS)(e:Ending)(w':World):Prop:=
 ∃vl,e= .returned (.tuple #[.agg #[.string (B v.text),.int .i64 (v.set:Nat),vl],.bool true])∧Zg ntV w.heap.size w' vl ns∧InAt w' K s∧But K w.heap.size w w'
def CNtRel (w0:World)(K G:Nat)(SA:Array Value)(fb:Nat)(det:Bool)(v:Lf)(all:List Nt)(len:Nat)(sE:InS)(i:Value)(wr:World):Prop:=
 ∃(ns rest:List Nt) (vl:Value) (s:InS),all=ns++rest∧i= .int .u64 (ns.length:Nat)∧Hid (CbSt w0 wr K G SA v ns vl s)∧Hid (ZdT (lfC fb det) s rest sE)∧s.e=0∧s.t.length=len
structure CmSt (w wx:World)(K:Nat)(OA:Array Value)(s:InS):Prop where
 o:Bx wx w.heap.size OA 39
 res:Bx wx (w.heap.size+1) #[.string ⟨#[]⟩,.int .i64 0,.slice none 0 0] 33
 inn:InAt wx K s
 low:Below w.heap.size w wx
 hK:K<w.heap.size
theorem CmSt.below {w wx wy:World} {K:Nat} {OA:Array Value} {s:InS} (h:CmSt w wx K OA s)(hb:Below wx.heap.size wx wy):CmSt w wy K OA s:=⟨h.o.below hb,h.res.below hb,h.inn.below hb,h.low.trans (hb.mono h.low.size),h.hK⟩
theorem CmSt.mk0 {w:World} {K:Nat} {s:InS} (h:InAt w K s)(OA:Array Value):
 CmSt w ((w.alloc (.cells OA 39)).alloc (.cells #[.string ⟨#[]⟩,.int .i64 0,.slice none 0 0] 33)) K OA s:=by
 have b1:=(Bx.new w OA 39).alloc (.cells #[.string ⟨#[]⟩,.int .i64 0,.slice none 0 0] 33);have b2:=Bx.new (w.alloc (.cells OA 39)) #[.string ⟨#[]⟩,.int .i64 0,.slice none 0 0] 33;rw [World.size_alloc] at b2;exact⟨b1,b2,(h.alloc _).alloc _,((Below.refl _ w).alloc (Nat.le_refl _) _).alloc (by simp) _,h.lt⟩
theorem CbSt.mk0 {w wx:World} {K:Nat} {OA:Array Value} {s:InS} (h:CmSt w wx K OA s)(SA:Array Value):
 CbSt w ((wx.alloc (.cells SA 192)).alloc (.cells #[.string ⟨#[]⟩,.int .i64 0,.slice none 0 0] 33)) K wx.heap.size SA ⟨[],0⟩ [] (.slice none 0 0) s:=by
 have b1:=(Bx.new wx SA 192).alloc (.cells #[.string ⟨#[]⟩,.int .i64 0,.slice none 0 0] 33);have b2:=Bx.new (wx.alloc (.cells SA 192)) #[.string ⟨#[]⟩,.int .i64 0,.slice none 0 0] 33;rw [World.size_alloc] at b2;exact⟨(h.res.alloc _).alloc _,b1,b2,⟨rfl,.inl ⟨rfl,rfl⟩⟩,fun _=>rfl,(h.inn.alloc _).alloc _,.of ((h.low.alloc h.low.size _).alloc (by have:=h.low.size;simp;omega) _),h.hK,h.res.lt⟩
theorem CbSt.putv {w0 w:World} {K G:Nat} {SA:Array Value} {v:Lf} {ns:List Nt} {vl:Value} {s:InS} (h:CbSt w0 w K G SA v ns vl s)(u:Lf):
 CbSt w0 ((w.setCell ⟨G+1,0,none⟩ (.string (B u.text))).setCell ⟨G+1,1,none⟩ (.int .i64 (u.set:Nat))) K G SA u ns vl s:=by
 have hK:=h.hK;have hG:=h.hG;have hbt:But (G+1) w.heap.size w ((w.setCell ⟨G+1,0,none⟩ (.string (B u.text))).setCell ⟨G+1,1,none⟩ (.int .i64 (u.set:Nat))):=((But.refl _ _ _).setCell (p:=⟨G+1,0,none⟩) (.inr rfl) _).setCell (p:=⟨G+1,1,none⟩) (.inr rfl) _;exact⟨h.res.but hbt (by omega),h.sc.but hbt (by omega),(h.bb.put 0 _).put 1 _,Zb0 h.own hbt (by omega),h.nil_,h.inn.but hbt (by omega),(h.but.setCell (p:=⟨G+1,0,none⟩) (.inl (by show w0.heap.size≤G+1;omega)) _).setCell (p:=⟨G+1,1,none⟩) (.inl (by show w0.heap.size≤G+1;omega)) _,h.hK,h.hG⟩
theorem CbSt.cells {w0 w:World} {K G:Nat} {a b c d e:Value} {v:Lf} {ns:List Nt} {vl:Value} {s:InS} (h:CbSt w0 w K G #[a,b,c,d,e] v ns vl s):
 (w.cell? ⟨G,0,none⟩=some a∧w.cell? ⟨G,1,none⟩=some b∧w.cell? ⟨G,2,none⟩=some c∧w.cell? ⟨G,3,none⟩=some d∧w.cell? ⟨G,4,none⟩=some e)∧
 (w.cell? ⟨G+1,0,none⟩=some (.string (B v.text))∧w.cell? ⟨G+1,1,none⟩=some (.int .i64 (v.set:Nat))∧w.cell? ⟨G+1,2,none⟩=some vl)∧
 w.frozen? ⟨G+1,0,none⟩=false∧w.frozen? ⟨G+1,1,none⟩=false∧w.frozen? ⟨G+1,2,none⟩=false∧G+1<w.heap.size:=
 ⟨h.sc.five,⟨h.bb.cell 0,h.bb.cell 1,h.bb.cell 2⟩,h.bb.free 0,h.bb.free 1,h.bb.free 2,h.bb.lt⟩
theorem CbSt.next {w0 w w6:World} {K G:Nat} {SA:Array Value} {v:Lf} {ns ns2:List Nt} {vl v6:Value} {s:InS} (h:CbSt w0 w K G SA v ns vl s)(ho:w6.ownsRow (G+2) 91 3 v6 (ns++ns2).length ((ns++ns2).flatMap ntV))(hb:Below (G+2) w w6)(hne:ns++ns2≠[]):
 CbSt w0 (w6.setCell ⟨G+1,2,none⟩ v6) K G SA v (ns++ns2) v6 s:=by
 have hK:=h.hK;have hG:=h.hG;have hbt:But (G+1) w6.heap.size w6 (w6.setCell ⟨G+1,2,none⟩ v6):=(But.refl _ _ _).setCell (p:=⟨G+1,2,none⟩) (.inr rfl) _;exact⟨(h.res.same6 hb (by omega)).set (by omega) 2 _,(h.sc.same6 hb (by omega)).set (by omega) 2 _,(h.bb.same6 hb (by omega)).put 2 _,Zb0 ho hbt (by omega),fun e=>absurd e hne,(h.inn.same (hb.block _ (by omega))).set (by omega) 2 _,
  (h.but.trans (.of (hb.mono (by omega)))).setCell (p:=⟨G+1,2,none⟩) (.inl (by show w0.heap.size≤G+1;omega)) _,h.hK,h.hG⟩
theorem note_t (fb:Nat)(det:Bool)(s s':InS)(nt:Nt)(h:ZbE (lfC fb det) s=(nt,s'))(he:s'.e=0):s'.t=s.t:=by
 obtain⟨b,k,hsz,_⟩:=ZjY fb det s s' nt h he;have e:s'=(ZS s).2.2:=by rw [hsz]
 rw [e];unfold ZS;simp only;rw [Zhk];exact Zd4 s 4
theorem CbSt.fin {w0 w:World} {K G:Nat} {SA:Array Value} {v:Lf} {ns:List Nt} {vl:Value} {s:InS} (h:CbSt w0 w K G SA v ns vl s):
 Bx (((w.setCell ⟨w0.heap.size+1,0,none⟩ (.string (B v.text))).setCell ⟨w0.heap.size+1,1,none⟩ (.int .i64 (v.set:Nat))).setCell ⟨w0.heap.size+1,2,none⟩ vl) (w0.heap.size+1) #[.string (B v.text),.int .i64 (v.set:Nat),vl] 33∧
 Zg ntV w0.heap.size (((w.setCell ⟨w0.heap.size+1,0,none⟩ (.string (B v.text))).setCell ⟨w0.heap.size+1,1,none⟩ (.int .i64 (v.set:Nat))).setCell ⟨w0.heap.size+1,2,none⟩ vl) vl ns∧
 InAt (((w.setCell ⟨w0.heap.size+1,0,none⟩ (.string (B v.text))).setCell ⟨w0.heap.size+1,1,none⟩ (.int .i64 (v.set:Nat))).setCell ⟨w0.heap.size+1,2,none⟩ vl) K s∧
 But K w0.heap.size w0 (((w.setCell ⟨w0.heap.size+1,0,none⟩ (.string (B v.text))).setCell ⟨w0.heap.size+1,1,none⟩ (.int .i64 (v.set:Nat))).setCell ⟨w0.heap.size+1,2,none⟩ vl):=by
 have hK:=h.hK;have hG:=h.hG;have hbt:But (w0.heap.size+1) w.heap.size w (((w.setCell ⟨w0.heap.size+1,0,none⟩ (.string (B v.text))).setCell ⟨w0.heap.size+1,1,none⟩ (.int .i64 (v.set:Nat))).setCell ⟨w0.heap.size+1,2,none⟩ vl):=
  (((But.refl _ _ _).setCell (p:=⟨w0.heap.size+1,0,none⟩) (.inr rfl) _).setCell (p:=⟨w0.heap.size+1,1,none⟩) (.inr rfl) _).setCell (p:=⟨w0.heap.size+1,2,none⟩) (.inr rfl) _
 exact⟨Bx.three h.res _ _ _,(Zg.of_own rfl (Zb0 h.own hbt (by omega)) h.nil_).low (by omega),h.inn.but hbt (by omega),
  ((h.but.setCell (p:=⟨w0.heap.size+1,0,none⟩) (.inl (Nat.le_succ _)) _).setCell (p:=⟨w0.heap.size+1,1,none⟩) (.inl (Nat.le_succ _)) _).setCell (p:=⟨w0.heap.size+1,2,none⟩) (.inl (Nat.le_succ _)) _⟩
theorem ZlG (K:Nat)(s s1 s2 s3 s4:InS)(framed:Bool)(kd bud:Int)(fb:Nat)(det:Bool)(hfb:fb≤9)(b:List UInt8)(a:Nat)(v:Lf)(ns:List Nt)
 (he:s.e=0) (hv:ZS s=(b,a,s1)) (he1:s1.e=0) (hlf:lfC fb det b= .ok v) (hn:s1.small 4=(ns.length,s2)) (he2:s2.e=0) (hns:ns.length≤4096)
 (hno:ZdT (lfC fb det) s2 ns s3) (he3:s3.e=0) (hfr:(if framed then(s3.want [1]).2 else s3)=s4) (he4:s4.e=0) (hl4:s4.left=0)
 (hlen:s.t.length≤100000) (w:World) (hG:Grd w) (h:InAt w K s):
 Calls Tryz.prog 54 #[.pointer (some ⟨K,0,none⟩),.bool framed,.agg #[.int .i64 kd,.int .i64 fb,.bool det,.int .i64 bud]] w (Zfw w K v ns s4):=by
 have hszd:=fun w h=>Zie K s kd bud fb det w h;unfold ZD at hszd;rw [hv] at hszd;simp only at hszd;have hbl:b.length≤100000:=by
  have e:b=(ZS s).1:=by rw [hv]
  rw [e];unfold ZS;simp only;refine Nat.le_trans (Zlp _ _) ?_;rw [Zd4 s 4];exact hlen
 have ht1:s1.t=s.t:=by
  have e:s1=(ZS s).2.2:=by rw [hv]
  rw [e];unfold ZS;simp only;rw [Zhk];exact Zd4 s 4
 have ht2:s2.t=s.t:=by
  have e:s2=(s1.small 4).2:=by rw [hn]
  rw [e,Zd4 s1 4,ht1]
 have hfl0:=fun w h=>ZbQ K s w h;have hfl1:=fun w h=>ZbQ K s1 w h;rw [he] at hfl0;rw [he1] at hfl1;have hbd0:=fun w=>ZT 0 s.a rfl w;have hbd1:=fun w=>ZT 0 s1.a rfl w;have hka:a≤1000000000:=by
  have e:a=(ZS s).2.1:=(by rw [hv]);rw [e];exact Zk8 s h.fits h.room
 obtain⟨hut,hvl⟩:=ZjI hlf;have hle:∀w,Grd w→InAt w K s1→Calls Tryz.prog 118 #[.agg (ZaV K kd bud fb det),.string (B b),.int .i64 (a:Nat)] w (ZD K w (.agg #[.string (B v.text),.int .i64 (v.set:Nat)]) s1):=fun w hG h=>by
  rw [hvl];exact ZhN K s1 kd bud fb det b hbl hut _ w hG h
 unfold ZD at hle;clear hut hvl;have hat:=fun w h=>Zdu K s1 w h;have hsm:=fun w h=>ZcW K s1 4 (by decide) w h;unfold ZD at hsm;rw [hn] at hsm;simp only at hsm;have hKl:=h.lt;have C0:=Lib.hid (CmSt.mk0 h #[.int .i64 kd,.int .i64 fb,.bool det,.int .i64 bud]);have G0:=Lib.hid hG;have HNO:=Lib.hid hno;have HI:=Lib.hid h;have hnote:=fun(sX sY:InS) (nt:Nt) (hX:ZbE (lfC fb det) sX=(nt,sY)) (hY:sY.e=0) (hZ:sX.t.length≤100000) w hG h=>ZlE K sX sY kd bud fb det hfb nt hX hY hZ w hG h;have HNT:=Lib.hid hnote;have hfl2:∀(sX:InS),sX.e=0→∀w,InAt w K sX→Calls Tryz.prog 55 #[.pointer (some ⟨K,0,none⟩)] w fun e w'=>e= .returned (.agg #[.int .i64 (0:Nat),.int .i64 sX.a])∧Below w.heap.size w w':=by
  intro sX hX w h;have:=ZbQ K sX w h;rw [hX] at this;exact this
 have HF2:=Lib.hid hfl2;clear hno hv hlf hn hG h hnote hfl2;obtain⟨o0,o1,o2,o3⟩:(_∧_∧_∧_):=⟨C0.out.o.cell 0,C0.out.o.cell 1,C0.out.o.cell 2,C0.out.o.cell 3⟩
 go_enter Tryz.func54,Tryz.ntmps54
 go_upto_region 5 with(first
  |(go_at_call 55;refine(hfl0 _ C0.out.inn).mono ?_;rintro e w1 ⟨rfl,hb1⟩;have C1:=Lib.hid (C0.out.below hb1);clear hb1)
  |(go_at_call 8;refine(hbd0 _).mono ?_;rintro e w2 ⟨rfl,hb2⟩;have C2:=Lib.hid (C1.out.below hb2);clear hb2;have p0:=C2.out.o.cell 0;have p1:=C2.out.o.cell 1;have p2:=C2.out.o.cell 2;have p3:=C2.out.o.cell 3))
 have B0:=Lib.hid (CbSt.mk0 C2.out (ZaV K kd bud fb det));have G1:=Lib.hid (G0.out.below C2.out.low);have Gs:=Lib.hid (((Below.refl w2.heap.size w2).alloc (Nat.le_refl _) (.cells (ZaV K kd bud fb det) 192)).alloc (by simp) (.cells #[.string ⟨#[]⟩,.int .i64 0,.slice none 0 0] 33));unfold ZaV at*;have G2:=Lib.hid (G1.out.below Gs.out);clear o0 o1 o2 o3 p0 p1 p2 p3 C0 C1 Gs;generalize hW:(w2.alloc _).alloc _=W0 at*;have hg2:w.heap.size+2≤w2.heap.size:=C2.out.res.lt;clear hW C2 G1;generalize w2.heap.size=G at*;obtain⟨⟨x0,x1,x2,x3,x4⟩,⟨z0,z1,z2⟩,f0,f1,f2,hl⟩:=B0.out.cells;go_upto_region 9 with(first
  |(go_at_call 117;refine(hszd _ B0.out.inn).mono ?_;rintro e w3 ⟨rfl,h3,hb3⟩;have B3:=Lib.hid (B0.out.butK h3 hb3);have G3:=Lib.hid (G2.out.but B0.out.inn hb3);clear h3 hb3 x0 x1 x2 x3 x4 z0 z1 z2 f0 f1 f2 hl;obtain⟨⟨x0,x1,x2,x3,x4⟩,⟨z0,z1,z2⟩,f0,f1,f2,hl⟩:=B3.out.cells)
  |(go_at_call 55;refine(hfl1 _ B3.out.inn).mono ?_;rintro e w4 ⟨rfl,hb4⟩;have B4:=Lib.hid (B3.out.below hb4);have G4:=Lib.hid (G3.out.below hb4);clear hb4)
  |(go_at_call 8;refine(hbd1 _).mono ?_;rintro e w5 ⟨rfl,hb5⟩;have B5:=Lib.hid (B4.out.below hb5);have G5:=Lib.hid (G4.out.below hb5);clear hb5 x0 x1 x2 x3 x4 z0 z1 z2 f0 f1 f2 hl;obtain⟨⟨x0,x1,x2,x3,x4⟩,⟨z0,z1,z2⟩,f0,f1,f2,hl⟩:=B5.out.cells)
  |(go_at_call 118;refine(hle _ G5.out B5.out.inn).mono ?_;rintro e w6 ⟨rfl,h6,hb6⟩;have B6:=Lib.hid (B5.out.butK h6 hb6);have G6:=Lib.hid (G5.out.but B5.out.inn hb6);clear h6 hb6 x0 x1 x2 x3 x4 z0 z1 z2 f0 f1 f2 hl;obtain⟨⟨x0,x1,x2,x3,x4⟩,⟨z0,z1,z2⟩,f0,f1,f2,hl⟩:=B6.out.cells))
 have B7:=Lib.hid (B6.out.putv v);clear x0 x1 x2 x3 x4 z0 z1 z2 f0 f1 f2 hl B6;generalize (w6.setCell ⟨G+1,0,none⟩ _).setCell ⟨G+1,1,none⟩ _=w7 at*;obtain⟨⟨x0,x1,x2,x3,x4⟩,⟨z0,z1,z2⟩,f0,f1,f2,hl⟩:=B7.out.cells;have hq1:¬4096<(ns.length:Int):=by omega
 go_wp2_with (first
  |(go_at_call 57;refine(hat _ B7.out.inn).mono ?_;rintro e w8 ⟨rfl,rfl⟩)
  |(go_at_call 119;refine(hsm _ B7.out.inn).mono ?_;rintro e w9 ⟨rfl,h9,hb9⟩;have B9:=Lib.hid (B7.out.butK h9 hb9);clear h9 hb9 x0 x1 x2 x3 x4 z0 z1 z2 f0 f1 f2 hl;obtain⟨⟨x0,x1,x2,x3,x4⟩,⟨z0,z1,z2⟩,f0,f1,f2,hl⟩:=B9.out.cells))
 clear x0 x1 x2 x3 x4 z0 z1 z2 f0 f1 f2 hl;have HT2:=Lib.hid ht2;clear ht1 ht2;go_loopw [53] (fun i wr=>CNtRel w K G #[.pointer (some ⟨K,0,none⟩),.int .i64 kd,.int .i64 fb,.bool det,.int .i64 bud] fb det v ns s.t.length s3 i wr) (fun i _=>ns.length - (intOf i).toNat)
 case atStart=>exact⟨[],ns,.slice none 0 0,s2,rfl,rfl,B9,HNO,he2,by rw [HT2.out]⟩
 case round=>
  obtain⟨done,rest,vl,sX,hall,rfl,BR,HN,heX,hlX⟩:=hrel;have Hall:=Lib.hid hall;clear hall;obtain⟨A0,n0,c0,hvl⟩:=ZbG BR.out.own;subst hvl;cases rest with
  |cons nt rest'=>
   obtain⟨sY,hY1,hY2,hY3⟩:=HN.out;have hln:done.length+(rest'.length+1)=ns.length:=by have:=congrArg List.length Hall.out;simp at this;omega
   have hlt:(done.length:Int)<(ns.length:Int):=by omega
   have hdl:done.length≤4096:=by omega
   have Hln:=Lib.hid hln;clear hln;have hfx:=HF2.out sX heX;have hbx:=fun w=>ZT 0 sX.a rfl w;have hnx:=HNT.out sX sY nt hY1 hY2 (by omega);have HYt:Hid (sY.t.length=s.t.length):=Lib.hid (by rw [note_t fb det sX sY nt hY1 hY2];exact hlX);have HY3:=Lib.hid hY3;have HY2:=Lib.hid hY2;clear hY1 hY2 hY3 heX hlX HN;obtain⟨⟨x0,x1,x2,x3,x4⟩,⟨z0,z1,z2⟩,f0,f1,f2,hl⟩:=BR.out.cells;go_upto_region 17 with(first
    |(go_at_call 55;refine(hfx _ BR.out.inn).mono ?_;rintro e w10 ⟨rfl,hb10⟩;have BA:=Lib.hid (BR.out.below hb10);clear hb10)
    |(go_at_call 8;refine(hbx _).mono ?_;rintro e w11 ⟨rfl,hb11⟩;have BB:=Lib.hid (BA.out.below hb11);clear hb11 x0 x1 x2 x3 x4 z0 z1 z2 f0 f1 f2 hl;obtain⟨⟨x0,x1,x2,x3,x4⟩,⟨z0,z1,z2⟩,f0,f1,f2,hl⟩:=BB.out.cells))
   have hGB:Hid (∀n,Grd (w11.drewN n)):=Lib.hid fun n=>G0.out.but HI.out ((BB.out.drewN n).but);refine Zcr (fun w'=>w'.cell? ⟨G,0,none⟩=some (.pointer (some ⟨K,0,none⟩))∧w'.cell? ⟨G,1,none⟩=some (.int .i64 kd)∧w'.cell? ⟨G,2,none⟩=some (.int .i64 (fb:Int))∧w'.cell? ⟨G,3,none⟩=some (.bool det)∧w'.cell? ⟨G,4,none⟩=some (.int .i64 bud)) (.one 0 true (.one 2 true (.two 1 3 (.one 3 false (.one 4 false (.one 5 false (.one 6 true (.one 7 false .nil))))) (.two 1 4 (.one 4 false (.one 5 false (.one 6 true (.one 7 false .nil)))) (.one 1 false (.one 5 false (.one 6 true (.one 7 false .nil)))))))) (by kernel_rfl) (by kernel_rfl) (by kernel_rfl) (Nat.le_of_ble_eq_true rfl) (fun _ _ d _ _ h=>by cases d<;>exact h) (BB.out.drewN 1).sc.five ?_;refine' Zs rfl (by rfl) _ (fun w' hSw=>_) _
   rotate_left
   · obtain⟨s0,s1,s2,s3,s4⟩:=hSw
     go_simp
     try with_reducible rfl
   try simp only [Act.put,List.setIfInBounds_toArray,List.set_cons_zero,List.set_cons_succ]
   refine' Zs rfl (by rfl) _ (fun w' hSw=>_) _
   rotate_left
   · obtain⟨s0,s1,s2,s3,s4⟩:=hSw
     go_simp
     try with_reducible rfl
   try simp only [Act.put,List.setIfInBounds_toArray,List.set_cons_zero,List.set_cons_succ]
   refine Zbf (Ze rfl (by rfl) (fun KK hKK=> ?_)) (Ze rfl (by rfl) (fun KK hKK=> ?_))
   · go_simp
     go_wp2_with fail
     refine hKK.out _ _ (BB.out.drewN 1).sc.five ?_;clear hKK KK
     try simp only [Act.put,List.setIfInBounds_toArray,List.set_cons_zero,List.set_cons_succ]
     refine Zl (Ze rfl (by rfl) (fun KK hKK=> ?_))
     go_simp
     go_at_call 120
     refine(hnx _ (hGB.out 1) (BB.out.drewN 1).inn).mono ?_;rintro e w12 ⟨rfl,h12,hb12⟩;have BC:=Lib.hid ((BB.out.drewN 1).butK h12 hb12);clear h12 hb12 z0 z1 z2 f0 f1 f2 hl;obtain⟨_,⟨z0,z1,z2⟩,f0,f1,f2,hl⟩:=BC.out.cells;go_wp2_with fail
     refine hKK.out _ _ BC.out.sc.five ?_;clear hKK KK
     try simp only [Act.put,List.setIfInBounds_toArray,List.set_cons_zero,List.set_cons_succ]
     refine Zl (Ze rfl (by rfl) (fun KK hKK=> ?_))
     go_simp
     go_wp2_with fail
     refine hKK.out _ _ (BC.out.sc.alloc _).five ?_;clear hKK KK
     try simp only [Act.put,List.setIfInBounds_toArray,List.set_cons_zero,List.set_cons_succ]
     refine Zl (Ze rfl (by rfl) (fun KK hKK=> ?_));refine ZfX _ _ rfl (G+2) (.slice A0 n0 c0) done rfl w12 nt BC.out.own (by have:=BC.out.bb.lt;omega) (by omega) rfl ?_;intro v6 w6 HO6 hb6;obtain⟨A6,n6,c6,hv6⟩:=ZbG HO6.out;subst hv6;have BD:=Lib.hid (BC.out.next HO6.out hb6 (by simp));have yf:=BC.out.bb.same6 hb6 (Nat.lt_succ_self _);have y6:=yf.cell 2;have yl:=yf.lt;have yz:=yf.free 2;refine hKK.out _ _ (BC.out.sc.same6 hb6 (by omega)).five ?_;clear yf hb6 HO6 hKK KK
     try simp only [Act.put,List.setIfInBounds_toArray,List.set_cons_zero,List.set_cons_succ]
     refine' Zs rfl (by rfl) _ (fun w' hSw=>_) _
     rotate_left
     · obtain⟨s0,s1,s2,s3,s4⟩:=hSw
       go_simp
       try with_reducible rfl
     try simp only [Act.put,List.setIfInBounds_toArray,List.set_cons_zero,List.set_cons_succ]
     refine Zl (Ze rfl (by rfl) (fun KK hKK=> ?_))
     go_simp
     go_wp2_with fail
     refine hKK.out _ _ BD.out.sc.five ?_;clear hKK KK
     try simp only [Act.put,List.setIfInBounds_toArray,List.set_cons_zero,List.set_cons_succ]
     refine Zae ?_;go_wp2_with fail
     go_roundw
     case rel=>exact⟨done++[nt],rest',_,sY,by rw [Hall.out];simp,by simp,BD,HY3,HY2.out,HYt.out⟩
     case measure=>have:=Hln.out;simp [intOf];omega
   · go_simp
     go_at_call 120
     refine(hnx _ (hGB.out 1) (BB.out.drewN 1).inn).mono ?_;rintro e w12 ⟨rfl,h12,hb12⟩;have BC:=Lib.hid ((BB.out.drewN 1).butK h12 hb12);clear h12 hb12 z0 z1 z2 f0 f1 f2 hl;obtain⟨_,⟨z0,z1,z2⟩,f0,f1,f2,hl⟩:=BC.out.cells;go_wp2_with fail
     refine hKK.out _ _ BC.out.sc.five ?_;clear hKK KK
     try simp only [Act.put,List.setIfInBounds_toArray,List.set_cons_zero,List.set_cons_succ]
     refine Zbf (Ze rfl (by rfl) (fun KK hKK=> ?_)) (Ze rfl (by rfl) (fun KK hKK=> ?_))
     · go_simp
       go_wp2_with fail
       refine hKK.out _ _ BC.out.sc.five ?_;clear hKK KK
       try simp only [Act.put,List.setIfInBounds_toArray,List.set_cons_zero,List.set_cons_succ]
       refine Zl (Ze rfl (by rfl) (fun KK hKK=> ?_))
       go_simp
       go_wp2_with fail
       refine hKK.out _ _ (BC.out.sc.alloc _).five ?_;clear hKK KK
       try simp only [Act.put,List.setIfInBounds_toArray,List.set_cons_zero,List.set_cons_succ]
       refine Zl (Ze rfl (by rfl) (fun KK hKK=> ?_));refine ZfX _ _ rfl (G+2) (.slice A0 n0 c0) done rfl w12 nt BC.out.own (by have:=BC.out.bb.lt;omega) (by omega) rfl ?_;intro v6 w6 HO6 hb6;obtain⟨A6,n6,c6,hv6⟩:=ZbG HO6.out;subst hv6;have BD:=Lib.hid (BC.out.next HO6.out hb6 (by simp));have yf:=BC.out.bb.same6 hb6 (Nat.lt_succ_self _);have y6:=yf.cell 2;have yl:=yf.lt;have yz:=yf.free 2;refine hKK.out _ _ (BC.out.sc.same6 hb6 (by omega)).five ?_;clear yf hb6 HO6 hKK KK
       try simp only [Act.put,List.setIfInBounds_toArray,List.set_cons_zero,List.set_cons_succ]
       refine' Zs rfl (by rfl) _ (fun w' hSw=>_) _
       rotate_left
       · obtain⟨s0,s1,s2,s3,s4⟩:=hSw
         go_simp
         try with_reducible rfl
       try simp only [Act.put,List.setIfInBounds_toArray,List.set_cons_zero,List.set_cons_succ]
       refine Zl (Ze rfl (by rfl) (fun KK hKK=> ?_))
       go_simp
       go_wp2_with fail
       refine hKK.out _ _ BD.out.sc.five ?_;clear hKK KK
       try simp only [Act.put,List.setIfInBounds_toArray,List.set_cons_zero,List.set_cons_succ]
       refine Zae ?_;go_wp2_with fail
       go_roundw
       case rel=>exact⟨done++[nt],rest',_,sY,by rw [Hall.out];simp,by simp,BD,HY3,HY2.out,HYt.out⟩
       case measure=>have:=Hln.out;simp [intOf];omega
     · go_simp
       go_wp2_with fail
       refine hKK.out _ _ (BC.out.sc.alloc _).five ?_;clear hKK KK
       try simp only [Act.put,List.setIfInBounds_toArray,List.set_cons_zero,List.set_cons_succ]
       refine Zl (Ze rfl (by rfl) (fun KK hKK=> ?_))
       go_simp
       go_wp2_with fail
       refine hKK.out _ _ (BC.out.sc.alloc _).five ?_;clear hKK KK
       try simp only [Act.put,List.setIfInBounds_toArray,List.set_cons_zero,List.set_cons_succ]
       refine Zl (Ze rfl (by rfl) (fun KK hKK=> ?_));refine ZfX _ _ rfl (G+2) (.slice A0 n0 c0) done rfl w12 nt BC.out.own (by have:=BC.out.bb.lt;omega) (by omega) rfl ?_;intro v6 w6 HO6 hb6;obtain⟨A6,n6,c6,hv6⟩:=ZbG HO6.out;subst hv6;have BD:=Lib.hid (BC.out.next HO6.out hb6 (by simp));have yf:=BC.out.bb.same6 hb6 (Nat.lt_succ_self _);have y6:=yf.cell 2;have yl:=yf.lt;have yz:=yf.free 2;refine hKK.out _ _ (BC.out.sc.same6 hb6 (by omega)).five ?_;clear yf hb6 HO6 hKK KK
       try simp only [Act.put,List.setIfInBounds_toArray,List.set_cons_zero,List.set_cons_succ]
       refine' Zs rfl (by rfl) _ (fun w' hSw=>_) _
       rotate_left
       · obtain⟨s0,s1,s2,s3,s4⟩:=hSw
         go_simp
         try with_reducible rfl
       try simp only [Act.put,List.setIfInBounds_toArray,List.set_cons_zero,List.set_cons_succ]
       refine Zl (Ze rfl (by rfl) (fun KK hKK=> ?_))
       go_simp
       go_wp2_with fail
       refine hKK.out _ _ BD.out.sc.five ?_;clear hKK KK
       try simp only [Act.put,List.setIfInBounds_toArray,List.set_cons_zero,List.set_cons_succ]
       refine Zae ?_;go_wp2_with fail
       go_roundw
       case rel=>exact⟨done++[nt],rest',_,sY,by rw [Hall.out];simp,by simp,BD,HY3,HY2.out,HYt.out⟩
       case measure=>have:=Hln.out;simp [intOf];omega
  |nil=>
   have hdn:done=ns:=by have:=Hall.out;simpa using this.symm
   subst hdn;have hsx:sX=s3:=HN.out;subst hsx;have HV:=Lib.hid BR.out.nil_;obtain⟨⟨x0,x1,x2,x3,x4⟩,⟨z0,z1,z2⟩,f0,f1,f2,hl⟩:=BR.out.cells;have hf4:=HF2.out s4 he4;have hb4:=fun w=>ZT 0 s4.a rfl w;have hlf4:=fun w h=>ZfB K s4 w h;rw [hl4] at hlf4;have HFR:=Lib.hid hfr;clear hfr HN Hall HI HNO HT2 hfl0 hfl1 hbd0 hbd1 hle hat hsm;cases framed with
   |false=>
    have he:sX=s4:=HFR.out;subst he;go_wp2_with (first
     |(go_at_call 121;refine(hlf4 _ BR.out.inn).mono ?_;rintro e w10 ⟨rfl,hb10⟩;have BA:=Lib.hid (BR.out.below hb10);clear hb10 x0 x1 x2 x3 x4 z0 z1 z2 f0 f1 f2 hl;obtain⟨⟨x0,x1,x2,x3,x4⟩,⟨z0,z1,z2⟩,f0,f1,f2,hl⟩:=BA.out.cells)
     |(go_at_call 55;refine(hf4 _ BA.out.inn).mono ?_;rintro e w11 ⟨rfl,hb11⟩;have BB:=Lib.hid (BA.out.below hb11);clear hb11)
     |(go_at_call 8;refine(hb4 _).mono ?_;rintro e w12 ⟨rfl,hb12⟩;have BC:=Lib.hid (BB.out.below hb12);clear hb12 x0 x1 x2 x3 x4 z0 z1 z2 f0 f1 f2 hl;obtain⟨⟨x0,x1,x2,x3,x4⟩,⟨z0,z1,z2⟩,f0,f1,f2,hl⟩:=BC.out.cells;have q0:=BC.out.res.cell 0;have q1:=BC.out.res.cell 1;have q2:=BC.out.res.cell 2;have g0:=BC.out.res.free 0;have g1:=BC.out.res.free 1;have g2:=BC.out.res.free 2;have gl:=BC.out.res.lt))
    obtain⟨zb,zr⟩:=BC.out.fin;refine bodyPost_ret (ZkP rfl _ _ (w.heap.size+1) _ _ _ _ _ rfl rfl zb Tryz.underlying33 rfl (by kernel_rfl)) rfl ?_;exact⟨_,rfl,zr⟩
   |true=>
    have he:(sX.want [1]).2=s4:=HFR.out;have hwn:=fun w h=>Zes K sX [1] (by decide) w h;unfold ZD at hwn;rw [he] at hwn;rw [show B [1]=⟨#[1]⟩ from rfl] at hwn;generalize (sX.want [1]).1=wb at*;clear he;go_wp2_with (first
     |(go_at_call 53;refine(hwn _ BR.out.inn).mono ?_;rintro e wa ⟨rfl,ha,hba⟩;have BZ:=Lib.hid (BR.out.butK ha hba);clear ha hba x0 x1 x2 x3 x4 z0 z1 z2 f0 f1 f2 hl;obtain⟨⟨x0,x1,x2,x3,x4⟩,⟨z0,z1,z2⟩,f0,f1,f2,hl⟩:=BZ.out.cells)
     |(go_at_call 121;refine(hlf4 _ BZ.out.inn).mono ?_;rintro e w10 ⟨rfl,hb10⟩;have BA:=Lib.hid (BZ.out.below hb10);clear hb10 x0 x1 x2 x3 x4 z0 z1 z2 f0 f1 f2 hl;obtain⟨⟨x0,x1,x2,x3,x4⟩,⟨z0,z1,z2⟩,f0,f1,f2,hl⟩:=BA.out.cells)
     |(go_at_call 55;refine(hf4 _ BA.out.inn).mono ?_;rintro e w11 ⟨rfl,hb11⟩;have BB:=Lib.hid (BA.out.below hb11);clear hb11)
     |(go_at_call 8;refine(hb4 _).mono ?_;rintro e w12 ⟨rfl,hb12⟩;have BC:=Lib.hid (BB.out.below hb12);clear hb12 x0 x1 x2 x3 x4 z0 z1 z2 f0 f1 f2 hl;obtain⟨⟨x0,x1,x2,x3,x4⟩,⟨z0,z1,z2⟩,f0,f1,f2,hl⟩:=BC.out.cells;have q0:=BC.out.res.cell 0;have q1:=BC.out.res.cell 1;have q2:=BC.out.res.cell 2;have g0:=BC.out.res.free 0;have g1:=BC.out.res.free 1;have g2:=BC.out.res.free 2;have gl:=BC.out.res.lt))
    obtain⟨zb,zr⟩:=BC.out.fin;refine bodyPost_ret (ZkP rfl _ _ (w.heap.size+1) _ _ _ _ _ rfl rfl zb Tryz.underlying33 rfl (by kernel_rfl)) rfl ?_;exact⟨_,rfl,zr⟩
theorem ZqF {s:InS} (h:s.e≠0)(k:Nat):s.take k=([],s):=by unfold InS.take;rw [if_pos h]
theorem Zql {s:InS} (h:s.e≠0)(k:Nat):s.small k=(0,s):=by unfold InS.small;simp only [ZqF h];rfl
theorem Zq9 {s:InS} (h:s.e≠0)(w:List UInt8):s.want w=(false,s):=by unfold InS.want;rw [if_pos h]
theorem ZgJ (lf:List UInt8→Except (Nat×Nat) Lf){s s':InS} (h:s.e≠0){n:Nat} {l:List Nt} (hn:Zbe lf n s=(some l,s')):s'.e≠0∧n=0:=by
 cases n with
 |zero=>unfold Zbe at hn;injection hn with _ h2;subst h2;exact⟨h,rfl⟩
 |succ n=>unfold Zbe at hn;rw [if_pos h] at hn;injection hn with h1;cases h1
theorem Zj1 (lf:List UInt8→Except (Nat×Nat) Lf):∀(n:Nat) (s s':InS) (l:List Nt),Zbe lf n s=(some l,s')→s'.e=0→l.length=n∧ZdT lf s l s'
 |0,s,s',l,h,_=>by
  unfold Zbe at h;injection h with h1 h2;injection h1 with h1;subst h1 h2
  exact⟨rfl,rfl⟩
 |n+1,s,s',l,h,he=>by
  unfold Zbe at h;split at h
  · injection h with h1;cases h1
  · obtain⟨nt,s1,hn⟩:∃nt s1,ZbE lf s=(nt,s1):=⟨_,_,rfl⟩
    rw [hn] at h;simp only at h;split at h
    · injection h with h1;cases h1
    · next l2 s2 h2=>
      injection h with h3 h4
      injection h3 with h3
      subst h3 h4;have h1:s1.e=0:=Classical.byContradiction fun q=>(ZgJ lf q h2).1 he;have ih:=Zj1 lf n s1 s2 l2 h2 he;exact⟨by rw [List.length_cons,ih.1],s1,hn,h1,ih.2⟩
theorem ZoG (fb:Nat)(det:Bool)(b:List UInt8)(e:Nat×Nat)(h:lfC fb det b= .error e):e.1≠0:=by
 unfold lfC at h;split at h
 · cases h
 · injection h with h;subst h;exact(by omega:(2:Nat)≠0)
theorem Zpv (fb:Nat)(det framed:Bool)(s s':InS)(bk:Bk)(h:ZdY (lfC fb det) framed s=(some bk,s')):
 ∃(b:List UInt8) (a:Nat) (v:Lf) (ns:List Nt) (s1 s2 s3:InS),s.e=0∧ZS s=(b,a,s1)∧s1.e=0∧lfC fb det b= .ok v∧s1.small 4=(ns.length,s2)∧s2.e=0∧ns.length≤4096∧
  ZdT (lfC fb det) s2 ns s3∧s3.e=0∧(if framed then(s3.want [1]).2 else s3)=s'∧s'.e=0∧s'.left=0∧bk=⟨v,ns⟩:=by
 have fin:∀(sA:InS) (l:Lf) (q:List Nt),(if(if 0<(if framed then(sA.want [1]).2 else sA).left then(if framed then(sA.want [1]).2 else sA).fail 1 (if framed then(sA.want [1]).2 else sA).at_ else(if framed then(sA.want [1]).2 else sA)).e≠0 then((none:Option Bk),(if 0<(if framed then(sA.want [1]).2 else sA).left then(if framed then(sA.want [1]).2 else sA).fail 1 (if framed then(sA.want [1]).2 else sA).at_ else(if framed then(sA.want [1]).2 else sA))) else(some ⟨l,q⟩,(if 0<(if framed then(sA.want [1]).2 else sA).left then(if framed then(sA.want [1]).2 else sA).fail 1 (if framed then(sA.want [1]).2 else sA).at_ else(if framed then(sA.want [1]).2 else sA))))=(some bk,s')→
  sA.e=0∧(if framed then(sA.want [1]).2 else sA)=s'∧s'.e=0∧s'.left=0∧bk=⟨l,q⟩:=by
  intro sA l q hh;have hw:sA.e≠0→(if framed then(sA.want [1]).2 else sA).e≠0:=fun hb=>by cases framed<;>simp [Zq9 hb,hb]
  generalize (if framed then(sA.want [1]).2 else sA)=sB at*;by_cases hl:0<sB.left
  · simp only [if_pos hl] at hh;rw [if_pos (ZdK _ _ _ (by decide))] at hh;injection hh with h1;cases h1
  · simp only [if_neg hl] at hh;by_cases h0:sB.e=0
    · rw [if_neg (by simpa using h0)] at hh;injection hh with h1 h2
      injection h1 with h1
      subst h2;exact⟨Classical.byContradiction fun hb=>hw hb h0,rfl,h0,by omega,h1.symm⟩
    · rw [if_pos h0] at hh;injection hh with h1;cases h1
 unfold ZdY at h;split at h
 · injection h with h1;cases h1
 · next h0=>
   obtain⟨b,a,s1,hz⟩:∃b a s1,ZS s=(b,a,s1):=⟨_,_,_,rfl⟩
   rw [hz] at h;simp only at h;split at h
   · injection h with h1;cases h1
   · next h1=>
     unfold Zdc at h;cases hv:lfC fb det b with
     |ok v=>
      rw [hv] at h;simp only at h;obtain⟨N,s2,hs⟩:∃N s2,s1.small 4=(N,s2):=⟨_,_,rfl⟩
      rw [hs] at h;simp only at h;by_cases hN:4096<N
      · rw [if_pos hN] at h;split at h
        · injection h with h1;cases h1
        · next ns sA hA=>
          have:=(ZgJ _ (ZdK s2 4 s1.at_ (by decide)) hA).2;omega
      · rw [if_neg hN] at h;split at h
        · injection h with h1;cases h1
        · next ns sA hA=>
          obtain⟨f1,f2,f3,f4,f5⟩:=fin sA v ns h;obtain⟨g1,g2⟩:=Zj1 _ N s2 sA ns hA f1;have h2:s2.e=0:=Classical.byContradiction fun q=>(ZgJ _ q hA).1 f1;subst g1;exact⟨b,a,v,ns,s1,s2,sA,Classical.not_not.1 h0,hz,Classical.not_not.1 h1,hv,hs,h2,by omega,g2,f1,f2,f3,f4,f5⟩
     |error e=>
      rw [hv] at h;simp only at h;have he:=ZdK s1 e.1 (a+e.2) (ZoG fb det b e hv);rw [Zql he] at h;simp only at h;rw [if_neg (by omega)] at h;unfold Zbe at h;simp only at h;obtain⟨f1,_⟩:=fin _ _ _ h;exact absurd f1 he
theorem ZlF (K:Nat)(s s':InS)(framed:Bool)(kd bud:Int)(fb:Nat)(det:Bool)(hfb:fb≤9)(bk:Bk)(hp:ZdY (lfC fb det) framed s=(some bk,s'))(hlen:s.t.length≤100000)(w:World)(hG:Grd w)(h:InAt w K s):
 Calls Tryz.prog 54 #[.pointer (some ⟨K,0,none⟩),.bool framed,.agg #[.int .i64 kd,.int .i64 fb,.bool det,.int .i64 bud]] w (Zfw w K bk.vendor bk.notes s'):=by
 obtain⟨b,a,v,ns,s1,s2,s3,h0,h1,h2,h3,h4,h5,h6,h7,h8,h9,h10,h11,rfl⟩:=Zpv fb det framed s s' bk hp;exact ZlG K s s1 s2 s3 s' framed kd bud fb det hfb b a v ns h0 h1 h2 h3 h4 h5 h6 h7 h8 h9 h10 h11 hlen w hG h
end Go.Proofs.YtnbkfkbcpfkddaaGreatDoor
