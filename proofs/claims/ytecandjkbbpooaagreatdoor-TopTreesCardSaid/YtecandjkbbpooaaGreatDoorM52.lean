/- Lemmas for a statement on the tops; conditions: as each says. -/
import Derived.Test.YtecandjkbbpooaaGreatDoorM51
set_option linter.unusedVariables false
set_option linter.unusedSimpArgs false
set_option maxRecDepth 100000
set_option maxHeartbeats 8000000
namespace Go.Proofs.YtecandjkbbpooaaGreatDoor
open Go Go.RowKit
structure TtSt (w wx:World)(HA OA:Array Value):Prop where
 h:Bx wx w.heap.size HA 23
 o:Bx wx (w.heap.size+1) OA 28
 low:Below w.heap.size w wx
theorem TtSt.below {w wx wy:World} {HA OA:Array Value} (h:TtSt w wx HA OA)(hb:Below wx.heap.size wx wy):TtSt w wy HA OA:=⟨h.h.below hb,h.o.below hb,h.low.trans (hb.mono h.low.size)⟩
theorem TtSt.alloc {w wx:World} {HA OA:Array Value} (h:TtSt w wx HA OA)(ob:Obj):TtSt w (wx.alloc ob) HA OA:=h.below ((Below.refl _ _).alloc (Nat.le_refl _) _)
theorem TtSt.putO {w wx:World} {HA OA:Array Value} (h:TtSt w wx HA OA)(j:Nat)(v:Value):TtSt w (wx.setCell ⟨w.heap.size+1,j,none⟩ v) HA (OA.setIfInBounds j v):=
 ⟨h.h.set (by omega) j v,h.o.put j v,h.low.setCell (by show w.heap.size≤w.heap.size+1;omega) v⟩
theorem TtSt.new (w:World)(HA OA:Array Value):TtSt w ((w.alloc (.cells HA 23)).alloc (.cells OA 28)) HA OA:=
 ⟨(Bx.new w _ _).alloc _,by have:=Bx.new (w.alloc (.cells HA 23)) OA 28;rw [World.size_alloc] at this;exact this,((Below.refl _ _).alloc (Nat.le_refl _) _).alloc (by simp) _⟩
def T1Rel (w:World)(HA OA:Array Value)(xs:List (It×Value))(i:Value)(wx:World):Prop:=∃k:Nat,k≤xs.length∧i= .int .i64 k∧Hid (TtSt w wx HA OA)∧Hid (∀x∈xs.take k,ItB x.1)
def T2Rel (w:World)(HA OA:Array Value)(ps:List Pi)(i:Value)(wx:World):Prop:=∃k:Nat,k≤ps.length∧i= .int .i64 k∧Hid (TtSt w wx HA OA)∧Hid (∀p∈ps.take k,p.text.length≤150)
def TG (v:Int)(rev fl:UInt8)(it:Value)(s:ByteArray):Array Value:=#[.int .i64 1,.int .i64 v,.int .u8 rev.toNat,.int .u8 fl.toNat,it,.string s,
 .int .u8 0,.int .u64 0,.int .u32 0,.int .u32 0,.string ⟨#[]⟩,.string ⟨#[]⟩,.string ⟨#[]⟩,.int .i64 0,.slice none 0 0,.string ⟨#[]⟩,.slice none 0 0,
 .slice none 0 0,.string ⟨#[]⟩,.int .i64 0,.slice none 0 0,.int .i64 0,.string ⟨#[]⟩,.slice none 0 0,.int .i64 0]
theorem tg_all (v:Int)(rev fl:UInt8)(A:Option Addr)(n c:Nat)(s:ByteArray):(TG v rev fl (.slice A n c) s).size=25∧(TG v rev fl (.slice A n c) s).all (·.oneCell')=true∧
 (TG v rev fl (.slice A n c) s)[0]? =some (.int .i64 1)∧(TG v rev fl (.slice A n c) s)[1]? =some (.int .i64 v)∧(TG v rev fl (.slice A n c) s)[2]? =some (.int .u8 rev.toNat)∧(TG v rev fl (.slice A n c) s)[3]? =some (.int .u8 fl.toNat)∧(TG v rev fl (.slice A n c) s)[4]? =some (.slice A n c)∧(TG v rev fl (.slice A n c) s)[5]? =some (.string s):=
 ⟨rfl,by unfold TG;simp;repeat (first|exact rfl|refine And.intro rfl ?_),rfl,rfl,rfl,rfl,rfl,rfl⟩
theorem Zmk (a b:ByteArray)(x y z u:Int):(#[Value.string a,.int .i64 x,.int .i64 y,.int .i64 z,.string b,.int .i64 u]:Array Value).all (·.oneCell')=true:=by
 simp
 repeat (first|exact rfl|refine And.intro rfl ?_)
theorem Bx.range6 {w:World} {g:Nat} {a b c d e f h:Value} {T:TypeId} (hb:Bx w g #[a,b,c,d,e,f,h] T):w.rangeAt g 0 [a,b,c,d,e,f]:=fun j u hu=>by
 rw [Nat.zero_add,hb.cell j];have hj:j<6:=(List.getElem?_eq_some_iff.1 hu).1
 match j,hj,hu with
 |0,_,hu=>exact hu
 |1,_,hu=>exact hu
 |2,_,hu=>exact hu
 |3,_,hu=>exact hu
 |4,_,hu=>exact hu
 |5,_,hu=>exact hu
theorem ZjT {P:Program} {l:List Oper} {Q:Exit→Act→World→Prop} {S:World→Prop} {i:Nat} {o:Oper} {listed:Array Bool} {fuel:Nat} {a:Act} {w:World} (hsel:Region.noSelect l.toArray=true)(hQ:∀c (a:Act) d v w,Q (.panic c) (a.put d v) w→Q (.panic c) a w)
 (ho:ZbF l i=some o) (hw:Region.wanted o (yielded l.toArray a.tmps)=true) (ty:TypeId) (x:Operand) (hop:o.op= .load ty x) (b off:Nat) (hx:a.eval x= .pointer (some ⟨b,off,none⟩)) (cs:List Value) (d:TypeDesc) (hSr:∀w,S w→w.rangeAt b off cs)
 (hu:P.underlying ty=some d) (hd:d.isRow=true) (hi:(P.info? ty).map (·.size)=some cs.length)
 (h1:(Region.ready .any l.toArray listed).contains i=true) (h2:Region.free .any l.toArray listed i=true) (hS:S w)
 (h:wpAnyH P .any l.toArray Q S fuel (listed.setIfInBounds i true) (a.put o.dst (.agg cs.toArray)) w):wpAnyH P .any l.toArray Q S (fuel+1) listed a w:=by
 rw [Zez] at ho;exact wpAnyH_take ho hsel h2 h1 (fun c a w=>hQ c a _ _ w) (yieldsIf_load_mid hw ty x hop b off hx cs d hSr hu hd hi) hS h
theorem ZaV.at_ {a b:List Pi} (h:ZaV a b){j:Nat} {p:Pi} (hp:b[j]? =some p):∃q,a[j]? =some q∧q.raw=p.raw∧q.text=p.text:=by
 unfold ZaV at h;have h1:=congrArg (·[j]?) h;simp only [List.getElem?_map,hp,Option.map_some] at h1;obtain⟨q,hq,e⟩:=Option.map_eq_some_iff.1 h1;simp only [Prod.mk.injEq] at e;exact⟨q,hq,e.1,e.2⟩
theorem ZsH {v:Int} {rev fl:UInt8} {its:List It} {sound s:List UInt8} (h:ZaF v rev fl its sound=some s)(hb:∀x∈its,ItB x)(hn:its.length≤10)(hs:sound.length≤200):s.length≤1000000:=by
 unfold ZaF prR at h;have hfl:(Z0 v.toNat its).length≤10:=by unfold Z0;rw [List.length_map];exact hn
 have hpl:=Zmd (v:=v.toNat) (rev:=rev) (fl:=fl) (ZhN (v:=v.toNat) hb) hfl
 (repeat' split at h)<;>first
  |(cases h;done)
  |(simp only [Option.map_some,Option.some.injEq] at h;rw [←h];first|(rw [List.length_append];omega)|omega)
  |(have h:=Option.some.inj h;rw [←h];omega)
theorem ZtB (v:Nat)(rev fl:UInt8)(vi:Value)(s:List UInt8){B0:Nat} {w:World} {l:List It} (h:Zaw B0 w vi l):(T67 1 v rev fl vi s).size=25∧(T67 1 v rev fl vi s).all (·.oneCell')=true∧
 (T67 1 v rev fl vi s)[1]? =some (.int .i64 v)∧(T67 1 v rev fl vi s)[2]? =some (.int .u8 rev.toNat)∧(T67 1 v rev fl vi s)[3]? =some (.int .u8 fl.toNat)∧(T67 1 v rev fl vi s)[4]? =some vi∧(T67 1 v rev fl vi s)[5]? =some (.string (B s)):=by
 obtain⟨A,n,c,hv⟩:=Zgh h;subst hv;exact⟨rfl,ZcG _ _ _ _ _ _ rfl,rfl,rfl,rfl,rfl,rfl⟩
theorem Zo9 (v:Int)(rev fl:UInt8)(xs:List (It×Value))(A:Option Addr)(c:Nat)(sound:List UInt8)(kd fb bud:Int)(det:Bool)(w:World)(hG:Ev.Gl w)(hw:Wk w)(hr:RdN 7 itV w w.heap.size A xs)
 (hps:∀x∈xs,∃A c,x.2= .slice A x.1.ps.length c∧RdN 4 piL w w.heap.size A x.1.ps) (hxl:xs.length≤9223372036854775807) (hsl:sound.length≤9223372036854775807):
 Calls Tryz.prog 3 #[.agg #[.int .i64 v,.int .u8 rev.toNat,.int .u8 fl.toNat],.slice A xs.length c,.string (B sound),.agg #[.int .i64 kd,.int .i64 fb,.bool det,.int .i64 bud]] w fun e w'=>e= .returned (.bool true)∧Below w.heap.size w w':=by
 have haw:=fun wx (hb:Below w.heap.size w wx)=>Aw_top wx (hG.below hb);have hri:=fun wx=>Zjw kd fb bud det wx;have HW:=Lib.hid hw;have HR:=Lib.hid hr;have HPS:=Lib.hid hps;have hss:=Zl sound;have S0:=Lib.hid (TtSt.new w #[.int .i64 v,.int .u8 rev.toNat,.int .u8 fl.toNat] #[.int .i64 kd,.int .i64 fb,.bool det,.int .i64 bud]);clear hr hw hps hG;go_enter Tryz.func3,Tryz.ntmps3
 go_upto_region 3 with(go_at_call 4;refine(haw _ S0.out.low).mono ?_;clear haw;rintro e w1 ⟨rfl,hb1⟩;have S1:=Lib.hid (S0.out.below hb1);clear S0 hb1)
 have y1:=S1.out.o.four;by_cases hn:10<xs.length
 · have q1:decide (10<(xs.length:Int))=true:=decide_eq_true (by omega);have q1':10<(xs.length:Int):=by omega
   clear hn;go_wp2_with fail
   go_ret
   exact⟨rfl,S1.out.low⟩
 have q1:decide (10<(xs.length:Int))=false:=decide_eq_false (by omega);have q1':¬10<(xs.length:Int):=by omega
 by_cases hs2:200<sound.length
 · have q2:decide (200<(sound.length:Int))=true:=decide_eq_true (by omega);have q2':200<(sound.length:Int):=by omega
   clear hn hs2;go_wp2_with fail
   go_ret
   exact⟨rfl,S1.out.low⟩
 have q2:decide (200<(sound.length:Int))=false:=decide_eq_false (by omega);have q2':¬200<(sound.length:Int):=by omega
 rcases hrb:Zdu kd fb bud with _|_
 · rw [hrb] at hri;clear hn hs2;go_wp2_with (go_at_call 5;refine(hri _).mono ?_;clear hri;rintro e w3 ⟨rfl,hb3⟩;have B3:=Lib.hid (S1.out.low.trans (hb3.mono S1.out.low.size));clear hb3)
   go_ret
   exact⟨rfl,B3.out⟩
 rw [hrb] at hri;have hbd:0≤bud:=by unfold Zdu at hrb;rw [decide_eq_true_eq] at hrb;exact hrb.2.2.1
 by_cases hpo:0<bud
 · clear hn hs2;go_wp2_with (go_at_call 5;refine(hri _).mono ?_;clear hri;rintro e w3 ⟨rfl,hb3⟩;have S3:=Lib.hid (S1.out.below hb3);have y3:=S3.out.o.four;clear hb3)
   go_ret
   exact⟨rfl,S3.out.low⟩
 have hb0:bud=0:=by omega
 subst hb0;obtain⟨fbn,hfe,hf6⟩:∃n:Nat,fb=n∧n≤6:=by
  unfold Zdu at hrb;rw [decide_eq_true_eq] at hrb;exact⟨fb.toNat,by omega,by omega⟩
 subst hfe;have HN:=Lib.hid hn;have HS:=Lib.hid hs2;clear hn hs2 hrb hbd hpo hxl hsl;go_upto_region 5 with(go_at_call 5;refine(hri _).mono ?_;clear hri;rintro e w3 ⟨rfl,hb3⟩;have S3:=Lib.hid (S1.out.below hb3);have y3:=S3.out.o.four;clear hb3 y1 S1)
 clear y3 q1 q1' q2 q2';have hxn:xs.length≤10:=by have:=HN.out;omega
 go_wp2_with fail
 go_loopw [49] (fun i wx=>T1Rel w #[.int .i64 v,.int .u8 rev.toNat,.int .u8 fl.toNat] #[.int .i64 kd,.int .i64 fbn,.bool det,.int .i64 0] xs i wx) (fun i _=>xs.length - (intOf i).toNat)
 case atStart=>exact⟨0,Nat.zero_le _,rfl,S3,Lib.hid (by simp)⟩
 case round=>
  obtain⟨k,hk,rfl,SR,IB⟩:=hrel;clear S3;by_cases hlt:k<xs.length
  · obtain⟨x,hx⟩:∃x,xs[k]? =some x:=⟨_,List.getElem?_eq_getElem hlt⟩
    obtain⟨ad,rfl,hadb,y0,y1,y2,y3,y4,y5,y6⟩:=((HR.out.below SR.out.low).more SR.out.low.size).it7 hx;obtain⟨A5,c5,hs5,hp5⟩:=HPS.out x (List.mem_of_getElem? hx);rw [hs5] at y6;have HX:=Lib.hid hx;have HP5:=Lib.hid hp5;have hz1:=Zl x.1.f.body;have hz2:=Zl x.1.f.id;clear hx hp5 hs5;by_cases h1:x.1.f.body.length≤200
    · have p1:decide (200<(x.1.f.body.length:Int))=false:=decide_eq_false (by omega);have p1':¬200<(x.1.f.body.length:Int):=by omega
      by_cases h2:x.1.f.id.length≤20
      · have p2:decide (20<(x.1.f.id.length:Int))=false:=decide_eq_false (by omega);have p2':¬20<(x.1.f.id.length:Int):=by omega
        by_cases h3:x.1.ps.length≤8
        · have p3:decide (8<(x.1.ps.length:Int))=false:=decide_eq_false (by omega);have p3':¬8<(x.1.ps.length:Int):=by omega
          have H12:=Lib.hid (And.intro h1 (And.intro h2 h3));clear h1 h2;go_upto_region 10 with fail
          have S5:=Lib.hid (SR.out.alloc (.cells #[.string (B x.1.f.id),.int .u8 x.1.f.st.toNat,.int .u8 x.1.f.fm.toNat,.int .u8 x.1.f.grp.toNat,.string (B x.1.f.body),.int .i64 x.1.f.at_,.slice A5 x.1.ps.length c5] 37));have bx:=Bx.new wr #[.string (B x.1.f.id),.int .u8 x.1.f.st.toNat,.int .u8 x.1.f.fm.toNat,.int .u8 x.1.f.grp.toNat,.string (B x.1.f.body),.int .i64 x.1.f.at_,.slice A5 x.1.ps.length c5] 37;clear y0 y1 y2 y3 y4 y5 y6 SR p1 p1' p2 p2' p3 p3' hz1 hz2;generalize (wr.alloc (.cells #[.string (B x.1.f.id),.int .u8 x.1.f.st.toNat,.int .u8 x.1.f.fm.toNat,.int .u8 x.1.f.grp.toNat,.string (B x.1.f.body),.int .i64 x.1.f.at_,.slice A5 x.1.ps.length c5] 37))=wo at*;generalize wr.heap.size=GI at*;have b6:=bx.cell 6;clear bx;go_wp2_with fail
          clear b6;go_loopw [75] (fun i wx=>T2Rel w #[.int .i64 v,.int .u8 rev.toNat,.int .u8 fl.toNat] #[.int .i64 kd,.int .i64 fbn,.bool det,.int .i64 0] x.1.ps i wx) (fun i _=>x.1.ps.length - (intOf i).toNat)
          case atStart=>exact⟨0,Nat.zero_le _,rfl,S5,Lib.hid (by simp)⟩
          case round=>
           obtain⟨j,hj,rfl,SJ,PB⟩:=hrel;clear S5;by_cases hjl:j<x.1.ps.length
           · obtain⟨p,hp⟩:∃p,x.1.ps[j]? =some p:=⟨_,List.getElem?_eq_getElem hjl⟩
             obtain⟨ad2,rfl,hadb2,p0,p1,p2,p3⟩:=((HP5.out.below SJ.out.low).more SJ.out.low.size).pc4 hp;have HPJ:=Lib.hid hp;have hz3:=Zl p.text;clear hp;by_cases h4:p.text.length≤150
             · have p4:decide (150<(p.text.length:Int))=false:=decide_eq_false (by omega);have p4':¬150<(p.text.length:Int):=by omega
               have H4:=Lib.hid h4;clear h4;go_wp2_with fail
               go_roundw
               case rel=>exact⟨j+1,by omega,by go_num,Lib.hid (SJ.out.alloc _),Lib.hid fun q hq=>by
                rw [ZmV HPJ.out] at hq;rcases List.mem_append.1 hq with hq|hq
                · exact PB.out q hq
                · simp only [List.mem_singleton] at hq;subst hq;exact H4.out⟩
               case measure=>simp [intOf];omega
             · have p4:decide (150<(p.text.length:Int))=true:=decide_eq_true (by omega);have p4':150<(p.text.length:Int):=by omega
               clear h4;go_wp2_with fail
               go_ret
               exact⟨rfl,(SJ.out.alloc _).low⟩
           · obtain rfl:j=x.1.ps.length:=by omega
             have IX:Hid (ItB x.1):=Lib.hid ⟨H12.out.2.1,H12.out.1,H12.out.2.2,fun q hq=>PB.out q (by rw [List.take_length];exact hq)⟩;clear PB;go_wp2_with fail
             go_roundw
             case rel=>exact⟨k+1,by omega,by go_num,SJ,Lib.hid fun q hq=>by
              rw [ZmV HX.out] at hq;rcases List.mem_append.1 hq with hq|hq
              · exact IB.out q hq
              · simp only [List.mem_singleton] at hq;subst hq;exact IX.out⟩
             case measure=>simp [intOf];omega
        · have p3:decide (8<(x.1.ps.length:Int))=true:=decide_eq_true (by omega);have p3':8<(x.1.ps.length:Int):=by omega
          clear h1 h2 h3;go_wp2_with fail
          go_ret
          exact⟨rfl,(SR.out.alloc _).low⟩
      · have p2:decide (20<(x.1.f.id.length:Int))=true:=decide_eq_true (by omega);have p2':20<(x.1.f.id.length:Int):=by omega
        clear h1 h2;go_wp2_with fail
        go_ret
        exact⟨rfl,(SR.out.alloc _).low⟩
    · have p1:decide (200<(x.1.f.body.length:Int))=true:=decide_eq_true (by omega);have p1':200<(x.1.f.body.length:Int):=by omega
      clear h1;go_wp2_with fail
      go_ret
      exact⟨rfl,(SR.out.alloc _).low⟩
  · obtain rfl:k=xs.length:=by omega
    have hib:=IB.out;rw [List.take_length] at hib;have HIB:=Lib.hid hib;clear hib IB;have y3:=SR.out.o.four;go_upto_region 18 with fail
    have S4:Hid (TtSt w _ #[.int .i64 v,.int .u8 rev.toNat,.int .u8 fl.toNat] #[.int .i64 1,.int .i64 fbn,.bool det,.int .i64 0]):=Lib.hid (SR.out.putO 0 (.int .i64 1));clear y3 SR;generalize (wr.setCell ⟨w.heap.size+1,0,none⟩ (.int .i64 1))=w4 at*;have HT:=Lib.hid (tg_all v rev fl A xs.length c (B sound));have c0:=S4.out.h.cell 0;have c1:=S4.out.h.cell 1;have c2:=S4.out.h.cell 2;go_upto_region 19 with(first
     |(refine ZgO rfl 59 _ rfl (TG v rev fl (.slice A xs.length c) (B sound)) (by kernel_rfl) ?_)
     |(refine Zna rfl 59 _ _ rfl _ (TG v rev fl (.slice A xs.length c) (B sound)) rfl rfl (by kernel_rfl) rfl HT.out.2.1 fun W0 bW hW=> ?_;have S5:=Lib.hid (S4.out.below hW);have B5:=Lib.hid bW;clear bW hW))
    clear c0 c1 c2 S4;generalize TG v rev fl (.slice A xs.length c) (B sound)=T at*;generalize w4.heap.size=GT at*;have hxb:∀x∈xs,ItB x.1:=HIB.out;have hxb9:=Lib.hid hxb;have hsd:sound.length≤200:=by have:=HS.out;omega
    have hpr:=ZjH T HT.out.1 HT.out.2.2.1 (ZaF v rev fl (xs.map (·.1)) sound) W0 fun wy hy=>
     Zjt v rev fl xs A c sound wy T HT.out.2.2.2.1 HT.out.2.2.2.2.1 HT.out.2.2.2.2.2.1 HT.out.2.2.2.2.2.2.1 HT.out.2.2.2.2.2.2.2
      ((HR.out.below (S5.out.low.trans (hy.mono S5.out.low.size))).more (Nat.le_trans S5.out.low.size hy.size))
      (fun x hx=>by
       obtain⟨A5,c5,e5,hp⟩:=HPS.out x hx;exact⟨A5,c5,e5,(hp.below (S5.out.low.trans (hy.mono S5.out.low.size))).more (Nat.le_trans S5.out.low.size hy.size)⟩)
      hxn hxb (((HW.out.below S5.out.low).below hy).grd) (by omega)
    rcases hres:ZaF v rev fl (xs.map (·.1)) sound with _|s
    · rw [hres] at hpr;unfold Zar at hpr;have hby:=fun(n a:Int) (hn:1≤n) wx=>Zaq n a (by omega) wx;clear hres;go_wp2_with (first
       |(refine wpList_load_row rfl 59 _ rfl GT rfl 59 T (0,0) _ B5.out Tryz.underlying59 rfl (by rw [HT.out.1];kernel_rfl) ?_)
       |(go_at_call 6;refine hpr.mono ?_;clear hpr;rintro e w6 ⟨hb6,n,a,rfl,hn1⟩;have S6:=Lib.hid ((S5.out.below hb6).alloc (.cells #[.int .i64 n,.int .i64 a] 62));have hb8:=hby n a hn1;clear hby hn1 hb6)
       |(go_at_call 7;refine(hb8 _).mono ?_;clear hb8;rintro e w7 ⟨rfl,hb7⟩;have S7:=Lib.hid (S6.out.below hb7);clear hb7))
      go_ret
      exact⟨rfl,S7.out.low⟩
    · rw [hres] at hpr;unfold Zar at hpr;have hbn:=fun wx=>ZT 0 0 rfl wx;obtain⟨n,l,its2,hvn,hTB⟩:=ZtV hres (fun y hy=>by obtain⟨x,hx,rfl⟩:=List.mem_map.1 hy;exact hxb x hx) (by rw [List.length_map];exact hxn) fbn det;have TB:=Lib.hid hTB;have hsl:s.length≤1000000:=ZsH hres (fun y hy=>by obtain⟨x,hx,rfl⟩:=List.mem_map.1 hy;exact hxb x hx) (by rw [List.length_map];exact hxn) hsd;subst hvn;clear hres hTB hxb;go_upto_region 22 with(first
       |(refine wpList_load_row rfl 59 _ rfl GT rfl 59 T (0,0) _ B5.out Tryz.underlying59 rfl (by rw [HT.out.1];kernel_rfl) ?_)
       |(go_at_call 6;refine hpr.mono ?_;clear hpr;rintro e w6 ⟨hb6,rfl⟩;have S6:=Lib.hid ((S5.out.below hb6).alloc (.cells #[.int .i64 0,.int .i64 0] 62));clear hb6)
       |(go_at_call 7;refine(hbn _).mono ?_;rintro e w7 ⟨rfl,hb7⟩;have S7:=Lib.hid (S6.out.below hb7);clear hb7))
      clear S5 S6 B5 HT;have y3:=S7.out.o.four;have hfp:=Zja TB.out (by rw [List.length_map];exact hxn) (by omega) (by omega) 0 w7 (HW.out.below S7.out.low);go_upto_region 23 with(first
       |(go_at_call 8;refine hfp.mono ?_;clear hfp;rintro e w8 ⟨vi,rfl,hit,hb8⟩;have S8:=Lib.hid (S7.out.below hb8);have IT8:=Lib.hid hit;have HT2:=Lib.hid (ZtB n rev fl vi sound hit);generalize T67 1 n rev fl vi sound=T2 at*;clear hit hb8)
       |(refine ZgP rfl 59 _ _ rfl _ _ T2 62 rfl rfl (by rw [HT2.out.1];kernel_rfl) (by rw [HT2.out.1];rfl) HT2.out.2.1 fun W8 b8 d8 h8=> ?_;have T8:=Lib.hid b8;have D8:=Lib.hid d8;have H8:=Lib.hid h8;have d80:=d8.cell 0;have d81:=d8.cell 1;have g80:=d8.free 0;have g81:=d8.free 1;clear b8 d8 h8))
      have HB:=Lib.hid ((H8.out.setCell (p:=⟨w8.heap.size+1,0,none⟩) (Nat.le_succ _) (.int .i64 0)).setCell (p:=⟨w8.heap.size+1,1,none⟩) (Nat.le_succ _) (.int .i64 0));have hz7:=S7.out.o.lt;have hz8:=S8.out.o.lt;obtain⟨ys,hys,hyr,hyp⟩:=IT8.out;obtain⟨A2,c2,hvi,hyd⟩:=RdN.of_rows Zfe hyr;have hyl:ys.length=xs.length:=by have e:=congrArg List.length hys;rw [List.length_map] at e;rw [e,TB.out.items.1,TB.out.len,List.length_map]
      subst hvi;have U9:Hid (TuSt w _ #[.int .i64 n,.int .u8 rev.toNat,.int .u8 fl.toNat] #[.int .i64 1,.int .i64 fbn,.bool det,.int .i64 0] T2 w8.heap.size):=Lib.hid ⟨(S8.out.below HB.out).h,(S8.out.below HB.out).o,(T8.out.set (by omega) 0 (.int .i64 0)).set (by omega) 1 (.int .i64 0),Za9 D8.out (.int .i64 0) (.int .i64 0)⟩;have L9:=Lib.hid ((S8.out.below HB.out).low);have HY:=Lib.hid ((hyd.below HB.out).more HB.out.size);have HYP:=Lib.hid fun(y:It×Value) (hy:y∈ys)=>(show∃A c,y.2= .slice A y.1.ps.length c∧RdN 4 piL _ _ A y.1.ps from by
       obtain⟨A5,c5,e5,hp⟩:=RdN.of_rows Zfm (hyp y hy);exact⟨A5,c5,e5,(hp.below HB.out).more HB.out.size⟩)
      have hsame:∀(k:Nat) (x y:It×Value),xs[k]? =some x→ys[k]? =some y→Ze0 x.1 y.1:=fun k x y hx hy=>
       TB.out.same k x.1 y.1 (by rw [List.getElem?_map,hx];rfl) (by rw [←hys,List.getElem?_map,hy];rfl)
      have HSM:=Lib.hid hsame;have hnf:=fun wx (hb:Below w.heap.size w wx)=>Zoh TB.out (fun y hy=>by obtain⟨x,hx,rfl⟩:=List.mem_map.1 hy;exact HIB.out x hx) (by rw [List.length_map];exact hxn) (by omega) (by omega) hf6 wx (HW.out.below hb);have HNF:=Lib.hid hnf;rw [hyl] at HT2;clear HB T8 D8 H8 d80 d81 g80 g81 S7 S8 y3 IT8 hz7 hz8 hyr hyp hyd hsame hnf TB HIB;generalize ((W8.setCell ⟨w8.heap.size+1,0,none⟩ (.int .i64 0)).setCell ⟨w8.heap.size+1,1,none⟩ (.int .i64 0))=w9 at*;generalize w8.heap.size=K at*;obtain⟨⟨h0,h1,h2⟩,⟨d1,d2,d3,d4,d5⟩,u0,u1⟩:=U9.out.cells HT2.out.2.2.1 HT2.out.2.2.2.1 HT2.out.2.2.2.2.1 HT2.out.2.2.2.2.2.1 HT2.out.2.2.2.2.2.2;go_upto_region 25 with(go_at_call 7;refine(hbn _).mono ?_;rintro e w10 ⟨rfl,hb10⟩;have UA:=Lib.hid (U9.out.below hb10);have LA:=Lib.hid hb10;clear hb10 h0 h1 h2 d1 d2 d3 d4 d5 u0 u1;obtain⟨⟨h0,h1,h2⟩,⟨d1,d2,d3,d4,d5⟩,u0,u1⟩:=UA.out.cells HT2.out.2.2.1 HT2.out.2.2.2.1 HT2.out.2.2.2.2.1 HT2.out.2.2.2.2.2.1 HT2.out.2.2.2.2.2.2)
      clear h0 h1 h2 d1 d2 d3 d4 d5 u0 u1 UA;go_wp2_with fail
      go_loopw [129] (fun i wx=>BlRel w9 xs.length i wx) (fun i _=>xs.length - (intOf i).toNat)
      case atStart=>exact⟨0,Nat.zero_le _,rfl,LA⟩
      case round=>
       obtain⟨k,hk,rfl,LR⟩:=hrel;clear LA;have UR:=Lib.hid (U9.out.below LR.out);by_cases hlt:k<xs.length
       · obtain⟨x,hx⟩:∃x,xs[k]? =some x:=⟨_,List.getElem?_eq_getElem hlt⟩
         obtain⟨y,hy⟩:∃y,ys[k]? =some y:=⟨_,List.getElem?_eq_getElem (by omega)⟩
         obtain⟨ad,rfl,hadb,y0,y1,y2,y3,y4,y5,y6⟩:=((HR.out.below (L9.out.trans (LR.out.mono L9.out.size))).more (Nat.le_trans L9.out.size LR.out.size)).it7 hx;obtain⟨A5,c5,hs5,hp5⟩:=HPS.out x (List.mem_of_getElem? hx);have LR1:=LR.out.alloc LR.out.size (.cells #[.string (B x.1.f.id),.int .u8 x.1.f.st.toNat,.int .u8 x.1.f.fm.toNat,.int .u8 x.1.f.grp.toNat,.string (B x.1.f.body),.int .i64 x.1.f.at_,.slice A5 x.1.ps.length c5] 37);obtain⟨ae,rfl,haeb,z0,z1,z2,z3,z4,z5,z6⟩:=((HY.out.below LR1).more LR1.size).it7 hy;clear LR1;obtain⟨A6,c6,hs6,hp6⟩:=HYP.out y (List.mem_of_getElem? hy);obtain⟨hsf,hsp⟩:=HSM.out k x y hx hy;have hml:y.1.ps.length=x.1.ps.length:=by have:=congrArg List.length hsp;simpa using this
         have hm8:x.1.ps.length≤8:=(hxb9.out x (List.mem_of_getElem? hx)).n;rw [hs5] at y6;rw [hs6,hml] at z6;rw [hsf] at z0 z1 z2 z3 z4;simp only at z0 z1 z2 z3 z4;generalize y.1.f.at_=at2 at*;have HP5:=Lib.hid hp5;have HP6:=Lib.hid hp6;have HSP:=Lib.hid hsp;clear hp5 hp6 hsp hsf hs5 hs6 hx hy;have hbd1:ad.block<wr.heap.size:=hadb;have hkL:k<ys.length:=by omega
         obtain⟨m,hm⟩:∃m,m=x.1.ps.length:=⟨_,rfl⟩
         have HM:=Lib.hid hm;rw [←hm] at y6 z0 z1 z2 z3 z4 z5 z6 hm8;clear hm hml;have d4:=(UR.out.cells HT2.out.2.2.1 HT2.out.2.2.2.1 HT2.out.2.2.2.2.1 HT2.out.2.2.2.2.2.1 HT2.out.2.2.2.2.2.2).2.1.2.2.2.1;have hK1:=UR.out.t.lt;go_upto_region 29 with fail
         have BX1:Hid (Bx ((wr.alloc (.cells #[.string (B x.1.f.id),.int .u8 x.1.f.st.toNat,.int .u8 x.1.f.fm.toNat,.int .u8 x.1.f.grp.toNat,.string (B x.1.f.body),.int .i64 x.1.f.at_,.slice A5 m c5] 37)).alloc (.cells #[.string (B x.1.f.id),.int .u8 x.1.f.st.toNat,.int .u8 x.1.f.fm.toNat,.int .u8 x.1.f.grp.toNat,.string (B x.1.f.body),.int .i64 at2,.slice A6 m c6] 37)) wr.heap.size #[.string (B x.1.f.id),.int .u8 x.1.f.st.toNat,.int .u8 x.1.f.fm.toNat,.int .u8 x.1.f.grp.toNat,.string (B x.1.f.body),.int .i64 x.1.f.at_,.slice A5 m c5] 37):=Lib.hid ((Bx.new wr _ _).alloc _);have BX2:Hid (Bx ((wr.alloc (.cells #[.string (B x.1.f.id),.int .u8 x.1.f.st.toNat,.int .u8 x.1.f.fm.toNat,.int .u8 x.1.f.grp.toNat,.string (B x.1.f.body),.int .i64 x.1.f.at_,.slice A5 m c5] 37)).alloc (.cells #[.string (B x.1.f.id),.int .u8 x.1.f.st.toNat,.int .u8 x.1.f.fm.toNat,.int .u8 x.1.f.grp.toNat,.string (B x.1.f.body),.int .i64 at2,.slice A6 m c6] 37)) (wr.heap.size+1) #[.string (B x.1.f.id),.int .u8 x.1.f.st.toNat,.int .u8 x.1.f.fm.toNat,.int .u8 x.1.f.grp.toNat,.string (B x.1.f.body),.int .i64 at2,.slice A6 m c6] 37):=Lib.hid (by have:=Bx.new (wr.alloc (.cells #[.string (B x.1.f.id),.int .u8 x.1.f.st.toNat,.int .u8 x.1.f.fm.toNat,.int .u8 x.1.f.grp.toNat,.string (B x.1.f.body),.int .i64 x.1.f.at_,.slice A5 m c5] 37)) #[.string (B x.1.f.id),.int .u8 x.1.f.st.toNat,.int .u8 x.1.f.fm.toNat,.int .u8 x.1.f.grp.toNat,.string (B x.1.f.body),.int .i64 at2,.slice A6 m c6] 37;rw [World.size_alloc] at this;exact this);have LC:=Lib.hid ((LR.out.alloc LR.out.size (.cells #[.string (B x.1.f.id),.int .u8 x.1.f.st.toNat,.int .u8 x.1.f.fm.toNat,.int .u8 x.1.f.grp.toNat,.string (B x.1.f.body),.int .i64 x.1.f.at_,.slice A5 m c5] 37)).alloc (by rw [World.size_alloc];exact Nat.le_succ_of_le LR.out.size) (.cells #[.string (B x.1.f.id),.int .u8 x.1.f.st.toNat,.int .u8 x.1.f.fm.toNat,.int .u8 x.1.f.grp.toNat,.string (B x.1.f.body),.int .i64 at2,.slice A6 m c6] 37));clear y0 y1 y2 y3 y4 y5 y6 z0 z1 z2 z3 z4 z5 z6 d4 LR UR hbd1 hadb haeb hK1;generalize ((wr.alloc (.cells #[.string (B x.1.f.id),.int .u8 x.1.f.st.toNat,.int .u8 x.1.f.fm.toNat,.int .u8 x.1.f.grp.toNat,.string (B x.1.f.body),.int .i64 x.1.f.at_,.slice A5 m c5] 37)).alloc (.cells #[.string (B x.1.f.id),.int .u8 x.1.f.st.toNat,.int .u8 x.1.f.fm.toNat,.int .u8 x.1.f.grp.toNat,.string (B x.1.f.body),.int .i64 at2,.slice A6 m c6] 37))=wc at*;generalize wr.heap.size=P at*;have hofx:=fun wx=>Zjl x.1.f wx;have hofz:=fun wx=>Zjl {x.1.f with at_:=at2} wx;simp only at hofz;have SB:Hid (∀W,Below wc.heap.size wc W→Bx W P #[.string (B x.1.f.id),.int .u8 x.1.f.st.toNat,.int .u8 x.1.f.fm.toNat,.int .u8 x.1.f.grp.toNat,.string (B x.1.f.body),.int .i64 x.1.f.at_,.slice A5 m c5] 37∧Bx W (P+1) #[.string (B x.1.f.id),.int .u8 x.1.f.st.toNat,.int .u8 x.1.f.fm.toNat,.int .u8 x.1.f.grp.toNat,.string (B x.1.f.body),.int .i64 at2,.slice A6 m c6] 37):=Lib.hid fun W hb=>⟨BX1.out.below hb,BX2.out.below hb⟩
         refine wp_region_held_drew (S:=fun W=>Below wc.heap.size wc W) (by kernel_rfl) (Za8 (Below.refl _ _)) fun hS=> ?_;refine' ZjS (i:=0) (by kernel_rfl) (fun _ _ d _ _ h=>by cases d<;>exact h) rfl (by rfl) _ (fun W hSw=>_) (by kernel_rfl) (by kernel_rfl) hS _
         rotate_left
         · go_simp
           try with_reducible rfl
         try simp only [Act.put,List.setIfInBounds_toArray,List.set_cons_zero,List.set_cons_succ]
         refine ZjT (i:=1) (by kernel_rfl) (fun _ _ d _ _ h=>by cases d<;>exact h) rfl (by rfl) 34 _ rfl P 0 rfl [.string (B x.1.f.id),.int .u8 x.1.f.st.toNat,.int .u8 x.1.f.fm.toNat,.int .u8 x.1.f.grp.toNat,.string (B x.1.f.body),.int .i64 x.1.f.at_] _ (fun W hSw=> ?_) Tryz.underlying34 rfl (by kernel_rfl) (by kernel_rfl) (by kernel_rfl) hS ?_
         · exact Bx.range6 (SB.out W hSw).1
         try simp only [Act.put,List.setIfInBounds_toArray,List.set_cons_zero,List.set_cons_succ]
         refine' ZjS (i:=3) (by kernel_rfl) (fun _ _ d _ _ h=>by cases d<;>exact h) rfl (by rfl) _ (fun W hSw=>_) (by kernel_rfl) (by kernel_rfl) hS _
         rotate_left
         · go_simp
           try with_reducible rfl
         try simp only [Act.put,List.setIfInBounds_toArray,List.set_cons_zero,List.set_cons_succ]
         refine ZjT (i:=4) (by kernel_rfl) (fun _ _ d _ _ h=>by cases d<;>exact h) rfl (by rfl) 34 _ rfl (P+1) 0 rfl [.string (B x.1.f.id),.int .u8 x.1.f.st.toNat,.int .u8 x.1.f.fm.toNat,.int .u8 x.1.f.grp.toNat,.string (B x.1.f.body),.int .i64 at2] _ (fun W hSw=> ?_) Tryz.underlying34 rfl (by kernel_rfl) (by kernel_rfl) (by kernel_rfl) hS ?_
         · exact Bx.range6 (SB.out W hSw).2
         try simp only [Act.put,List.setIfInBounds_toArray,List.set_cons_zero,List.set_cons_succ]
         refine anyH_9 (by kernel_rfl) (fun _ _ d _ _ h=>by cases d<;>exact h) wc (.agg #[.string (B x.1.f.id),.int .i64 x.1.f.st.toNat,.int .i64 x.1.f.fm.toNat,.int .i64 x.1.f.grp.toNat,.string (B x.1.f.body),.int .i64 x.1.f.at_]) (.agg #[.string (B x.1.f.id),.int .i64 x.1.f.st.toNat,.int .i64 x.1.f.fm.toNat,.int .i64 x.1.f.grp.toNat,.string (B x.1.f.body),.int .i64 at2]) _ _ _ (Nat.le_of_ble_eq_true rfl) ?hready ?hstep ?hfin hS hS
         case hready=>
          intro s hs
          match s,hs with
          |(0,false,false),_=>exact⟨by rw [show Region.ready .any _ (ZZ 0 false false)=[2,6,7] by kernel_rfl];simp,by decide⟩
          |(0,false,true),_=>exact⟨by rw [show Region.ready .any _ (ZZ 0 false true)=[2,6] by kernel_rfl];simp,by decide⟩
          |(0,true,false),_=>exact⟨by rw [show Region.ready .any _ (ZZ 0 true false)=[2,7] by kernel_rfl];simp,by decide⟩
          |(0,true,true),_=>exact⟨by rw [show Region.ready .any _ (ZZ 0 true true)=[2] by kernel_rfl];simp,by decide⟩
          |(1,false,false),_=>exact⟨by rw [show Region.ready .any _ (ZZ 1 false false)=[5,6,7] by kernel_rfl];simp,by decide⟩
          |(1,false,true),_=>exact⟨by rw [show Region.ready .any _ (ZZ 1 false true)=[5,6] by kernel_rfl];simp,by decide⟩
          |(1,true,false),_=>exact⟨by rw [show Region.ready .any _ (ZZ 1 true false)=[5,7] by kernel_rfl];simp,by decide⟩
          |(1,true,true),_=>exact⟨by rw [show Region.ready .any _ (ZZ 1 true true)=[5] by kernel_rfl];simp,by decide⟩
          |(k+2,false,false),_=>exact⟨by rw [show Region.ready .any _ (ZZ (k+2) false false)=[6,7] by kernel_rfl];simp,by simp [rk9]⟩
          |(k+2,false,true),_=>exact⟨by rw [show Region.ready .any _ (ZZ (k+2) false true)=[6] by kernel_rfl];simp,by simp [rk9]⟩
          |(k+2,true,false),_=>exact⟨by rw [show Region.ready .any _ (ZZ (k+2) true false)=[7] by kernel_rfl];simp,by simp [rk9]⟩
         case hstep=>
          intro s a' w' hs hS' hR j hj
          match s,hs with
          |(0,false,false),_=>
           obtain⟨bu,bv,rfl,hI⟩:=hR;rw [show Region.ready .any _ (ZZ 0 false false)=[2,6,7] by kernel_rfl] at hj;simp only [List.mem_cons,List.not_mem_nil,or_false] at hj
           dsimp only [ZbO,Zba]
           try simp only [Act.put,List.setIfInBounds_toArray,List.set_cons_zero,List.set_cons_succ]
           rcases hj with rfl|rfl|rfl
           · refine ZaD rfl (by rfl) (fun KK hKK=> ?_)
             go_simp
             refine(hofx _).mono ?_;rintro e w5 ⟨rfl,hb5⟩;go_wp2_with fail
             refine hKK.out _ _ (hI.keep hb5).below ⟨(1,false,false),rfl,by decide,bu,bv,?_,hI.keep hb5⟩;rfl
           · refine ZaD rfl (by rfl) (fun KK hKK=> ?_)
             go_simp
             go_wp2_with fail
             refine hKK.out _ _ hI.nextU.below ⟨(0,true,false),rfl,by decide,w'.heap.size,bv,?_,hI.nextU⟩;rfl
           · refine ZaD rfl (by rfl) (fun KK hKK=> ?_)
             go_simp
             go_wp2_with fail
             refine hKK.out _ _ hI.nextV.below ⟨(0,false,true),rfl,by decide,bu,w'.heap.size,?_,hI.nextV⟩;rfl
          |(0,false,true),_=>
           obtain⟨bu,bv,rfl,hI⟩:=hR;rw [show Region.ready .any _ (ZZ 0 false true)=[2,6] by kernel_rfl] at hj;simp only [List.mem_cons,List.not_mem_nil,or_false] at hj
           dsimp only [ZbO,Zba]
           try simp only [Act.put,List.setIfInBounds_toArray,List.set_cons_zero,List.set_cons_succ]
           rcases hj with rfl|rfl
           · refine ZaD rfl (by rfl) (fun KK hKK=> ?_)
             go_simp
             refine(hofx _).mono ?_;rintro e w5 ⟨rfl,hb5⟩;go_wp2_with fail
             refine hKK.out _ _ (hI.keep hb5).below ⟨(1,false,true),rfl,by decide,bu,bv,?_,hI.keep hb5⟩;rfl
           · refine ZaD rfl (by rfl) (fun KK hKK=> ?_)
             go_simp
             go_wp2_with fail
             refine hKK.out _ _ hI.nextU.below ⟨(0,true,true),rfl,by decide,w'.heap.size,bv,?_,hI.nextU⟩;rfl
          |(0,true,false),_=>
           obtain⟨bu,bv,rfl,hI⟩:=hR;rw [show Region.ready .any _ (ZZ 0 true false)=[2,7] by kernel_rfl] at hj;simp only [List.mem_cons,List.not_mem_nil,or_false] at hj
           dsimp only [ZbO,Zba]
           try simp only [Act.put,List.setIfInBounds_toArray,List.set_cons_zero,List.set_cons_succ]
           rcases hj with rfl|rfl
           · refine ZaD rfl (by rfl) (fun KK hKK=> ?_)
             go_simp
             refine(hofx _).mono ?_;rintro e w5 ⟨rfl,hb5⟩;go_wp2_with fail
             refine hKK.out _ _ (hI.keep hb5).below ⟨(1,true,false),rfl,by decide,bu,bv,?_,hI.keep hb5⟩;rfl
           · refine ZaD rfl (by rfl) (fun KK hKK=> ?_)
             go_simp
             go_wp2_with fail
             refine hKK.out _ _ hI.nextV.below ⟨(0,true,true),rfl,by decide,bu,w'.heap.size,?_,hI.nextV⟩;rfl
          |(0,true,true),_=>
           obtain⟨bu,bv,rfl,hI⟩:=hR;rw [show Region.ready .any _ (ZZ 0 true true)=[2] by kernel_rfl] at hj;simp only [List.mem_cons,List.not_mem_nil,or_false] at hj
           dsimp only [ZbO,Zba]
           try simp only [Act.put,List.setIfInBounds_toArray,List.set_cons_zero,List.set_cons_succ]
           rcases hj with rfl
           · refine ZaD rfl (by rfl) (fun KK hKK=> ?_)
             go_simp
             refine(hofx _).mono ?_;rintro e w5 ⟨rfl,hb5⟩;go_wp2_with fail
             refine hKK.out _ _ (hI.keep hb5).below ⟨(1,true,true),rfl,by decide,bu,bv,?_,hI.keep hb5⟩;rfl
          |(1,false,false),_=>
           obtain⟨bu,bv,rfl,hI⟩:=hR;rw [show Region.ready .any _ (ZZ 1 false false)=[5,6,7] by kernel_rfl] at hj;simp only [List.mem_cons,List.not_mem_nil,or_false] at hj
           dsimp only [ZbO,Zba]
           try simp only [Act.put,List.setIfInBounds_toArray,List.set_cons_zero,List.set_cons_succ]
           rcases hj with rfl|rfl|rfl
           · refine ZaD rfl (by rfl) (fun KK hKK=> ?_)
             go_simp
             refine(hofz _).mono ?_;rintro e w5 ⟨rfl,hb5⟩;go_wp2_with fail
             refine hKK.out _ _ (hI.keep hb5).below ⟨(2,false,false),rfl,by decide,bu,bv,?_,hI.keep hb5⟩;rfl
           · refine ZaD rfl (by rfl) (fun KK hKK=> ?_)
             go_simp
             go_wp2_with fail
             refine hKK.out _ _ hI.nextU.below ⟨(1,true,false),rfl,by decide,w'.heap.size,bv,?_,hI.nextU⟩;rfl
           · refine ZaD rfl (by rfl) (fun KK hKK=> ?_)
             go_simp
             go_wp2_with fail
             refine hKK.out _ _ hI.nextV.below ⟨(1,false,true),rfl,by decide,bu,w'.heap.size,?_,hI.nextV⟩;rfl
          |(1,false,true),_=>
           obtain⟨bu,bv,rfl,hI⟩:=hR;rw [show Region.ready .any _ (ZZ 1 false true)=[5,6] by kernel_rfl] at hj;simp only [List.mem_cons,List.not_mem_nil,or_false] at hj
           dsimp only [ZbO,Zba]
           try simp only [Act.put,List.setIfInBounds_toArray,List.set_cons_zero,List.set_cons_succ]
           rcases hj with rfl|rfl
           · refine ZaD rfl (by rfl) (fun KK hKK=> ?_)
             go_simp
             refine(hofz _).mono ?_;rintro e w5 ⟨rfl,hb5⟩;go_wp2_with fail
             refine hKK.out _ _ (hI.keep hb5).below ⟨(2,false,true),rfl,by decide,bu,bv,?_,hI.keep hb5⟩;rfl
           · refine ZaD rfl (by rfl) (fun KK hKK=> ?_)
             go_simp
             go_wp2_with fail
             refine hKK.out _ _ hI.nextU.below ⟨(1,true,true),rfl,by decide,w'.heap.size,bv,?_,hI.nextU⟩;rfl
          |(1,true,false),_=>
           obtain⟨bu,bv,rfl,hI⟩:=hR;rw [show Region.ready .any _ (ZZ 1 true false)=[5,7] by kernel_rfl] at hj;simp only [List.mem_cons,List.not_mem_nil,or_false] at hj
           dsimp only [ZbO,Zba]
           try simp only [Act.put,List.setIfInBounds_toArray,List.set_cons_zero,List.set_cons_succ]
           rcases hj with rfl|rfl
           · refine ZaD rfl (by rfl) (fun KK hKK=> ?_)
             go_simp
             refine(hofz _).mono ?_;rintro e w5 ⟨rfl,hb5⟩;go_wp2_with fail
             refine hKK.out _ _ (hI.keep hb5).below ⟨(2,true,false),rfl,by decide,bu,bv,?_,hI.keep hb5⟩;rfl
           · refine ZaD rfl (by rfl) (fun KK hKK=> ?_)
             go_simp
             go_wp2_with fail
             refine hKK.out _ _ hI.nextV.below ⟨(1,true,true),rfl,by decide,bu,w'.heap.size,?_,hI.nextV⟩;rfl
          |(1,true,true),_=>
           obtain⟨bu,bv,rfl,hI⟩:=hR;rw [show Region.ready .any _ (ZZ 1 true true)=[5] by kernel_rfl] at hj;simp only [List.mem_cons,List.not_mem_nil,or_false] at hj
           dsimp only [ZbO,Zba]
           try simp only [Act.put,List.setIfInBounds_toArray,List.set_cons_zero,List.set_cons_succ]
           rcases hj with rfl
           · refine ZaD rfl (by rfl) (fun KK hKK=> ?_)
             go_simp
             refine(hofz _).mono ?_;rintro e w5 ⟨rfl,hb5⟩;go_wp2_with fail
             refine hKK.out _ _ (hI.keep hb5).below ⟨(2,true,true),rfl,by decide,bu,bv,?_,hI.keep hb5⟩;rfl
          |(k+2,false,false),_=>
           obtain⟨bu,bv,rfl,hI⟩:=hR;rw [show Region.ready .any _ (ZZ (k+2) false false)=[6,7] by kernel_rfl] at hj;simp only [List.mem_cons,List.not_mem_nil,or_false] at hj
           dsimp only [ZbO,Zba]
           try simp only [Act.put,List.setIfInBounds_toArray,List.set_cons_zero,List.set_cons_succ]
           rcases hj with rfl|rfl
           · refine ZaD rfl (by rfl) (fun KK hKK=> ?_)
             go_simp
             go_wp2_with fail
             refine hKK.out _ _ hI.nextU.below ⟨(k+2,true,false),rfl,by simp [rk9],w'.heap.size,bv,?_,hI.nextU⟩;rfl
           · refine ZaD rfl (by rfl) (fun KK hKK=> ?_)
             go_simp
             go_wp2_with fail
             refine hKK.out _ _ hI.nextV.below ⟨(k+2,false,true),rfl,by simp [rk9],bu,w'.heap.size,?_,hI.nextV⟩;rfl
          |(k+2,false,true),_=>
           obtain⟨bu,bv,rfl,hI⟩:=hR;rw [show Region.ready .any _ (ZZ (k+2) false true)=[6] by kernel_rfl] at hj;simp only [List.mem_cons,List.not_mem_nil,or_false] at hj
           dsimp only [ZbO,Zba]
           try simp only [Act.put,List.setIfInBounds_toArray,List.set_cons_zero,List.set_cons_succ]
           rcases hj with rfl
           · refine ZaD rfl (by rfl) (fun KK hKK=> ?_)
             go_simp
             go_wp2_with fail
             refine hKK.out _ _ hI.nextU.below ⟨(k+2,true,true),rfl,by simp [rk9],w'.heap.size,bv,?_,hI.nextU⟩;rfl
          |(k+2,true,false),_=>
           obtain⟨bu,bv,rfl,hI⟩:=hR;rw [show Region.ready .any _ (ZZ (k+2) true false)=[7] by kernel_rfl] at hj;simp only [List.mem_cons,List.not_mem_nil,or_false] at hj
           dsimp only [ZbO,Zba]
           try simp only [Act.put,List.setIfInBounds_toArray,List.set_cons_zero,List.set_cons_succ]
           rcases hj with rfl
           · refine ZaD rfl (by rfl) (fun KK hKK=> ?_)
             go_simp
             go_wp2_with fail
             refine hKK.out _ _ hI.nextV.below ⟨(k+2,true,true),rfl,by simp [rk9],bu,w'.heap.size,?_,hI.nextV⟩;rfl
         case hfin=>
          intro s a' w' hs hS' hR
          match s,hs with
          |(kz+2,true,true),_=>
           obtain⟨bu,bv,rfl,hI⟩:=hR;refine⟨by kernel_rfl,?_⟩;obtain⟨hu1,hu2⟩:=hI.xu rfl;obtain⟨hv1,hv2⟩:=hI.xv rfl;have hne:=hI.ne rfl rfl;have LI:=Lib.hid hI.below;have hwc:=BX2.out.lt;clear hI hs hS hS' hofx hofz
           dsimp only [ZbO,Zba]
           try simp only [Act.put,List.setIfInBounds_toArray,List.set_cons_zero,List.set_cons_succ]
           refine ZcZ rfl (by rfl) (fun KK hKK=> ?_);refine wp_store_row 68 _ _ rfl bu #[.string (B x.1.f.id),.int .i64 x.1.f.st.toNat,.int .i64 x.1.f.fm.toNat,.int .i64 x.1.f.grp.toNat,.string (B x.1.f.body),.int .i64 x.1.f.at_] rfl rfl 68 _ hu2 (by kernel_rfl) rfl (Zmk _ _ _ _ _ _) ?_;have LJ:=Lib.hid (ZfV LI.out hu1 #[.string (B x.1.f.id),.int .i64 x.1.f.st.toNat,.int .i64 x.1.f.fm.toNat,.int .i64 x.1.f.grp.toNat,.string (B x.1.f.body),.int .i64 x.1.f.at_]);have X1:=Lib.hid (hu2.row #[.string (B x.1.f.id),.int .i64 x.1.f.st.toNat,.int .i64 x.1.f.fm.toNat,.int .i64 x.1.f.grp.toNat,.string (B x.1.f.body),.int .i64 x.1.f.at_]);have X2:=Lib.hid (hv2.rowO (show bv≠bu from fun e=>hne e.symm) #[.string (B x.1.f.id),.int .i64 x.1.f.st.toNat,.int .i64 x.1.f.fm.toNat,.int .i64 x.1.f.grp.toNat,.string (B x.1.f.body),.int .i64 x.1.f.at_]);refine hKK.out _ _ LJ.out ?_;clear hKK KK
           try simp only [Act.put,List.setIfInBounds_toArray,List.set_cons_zero,List.set_cons_succ]
           refine ZcZ rfl (by rfl) (fun KK hKK=> ?_);refine wp_store_row 68 _ _ rfl bv #[.string (B x.1.f.id),.int .i64 x.1.f.st.toNat,.int .i64 x.1.f.fm.toNat,.int .i64 x.1.f.grp.toNat,.string (B x.1.f.body),.int .i64 at2] rfl rfl 68 _ X2.out (by kernel_rfl) rfl (Zmk _ _ _ _ _ _) ?_;have LK:=Lib.hid (ZfV LJ.out hv1 #[.string (B x.1.f.id),.int .i64 x.1.f.st.toNat,.int .i64 x.1.f.fm.toNat,.int .i64 x.1.f.grp.toNat,.string (B x.1.f.body),.int .i64 at2]);have Y1:=Lib.hid (X1.out.rowO hne #[.string (B x.1.f.id),.int .i64 x.1.f.st.toNat,.int .i64 x.1.f.fm.toNat,.int .i64 x.1.f.grp.toNat,.string (B x.1.f.body),.int .i64 at2]);have Y2:=Lib.hid (X2.out.row #[.string (B x.1.f.id),.int .i64 x.1.f.st.toNat,.int .i64 x.1.f.fm.toNat,.int .i64 x.1.f.grp.toNat,.string (B x.1.f.body),.int .i64 at2]);refine hKK.out _ _ LK.out ?_;clear hKK KK
           try simp only [Act.put,List.setIfInBounds_toArray,List.set_cons_zero,List.set_cons_succ]
           refine ZdT ?_;clear LI LJ X1 X2 hu2 hv2;generalize ((w'.setRow bu #[.string (B x.1.f.id),.int .i64 x.1.f.st.toNat,.int .i64 x.1.f.fm.toNat,.int .i64 x.1.f.grp.toNat,.string (B x.1.f.body),.int .i64 x.1.f.at_]).setRow bv #[.string (B x.1.f.id),.int .i64 x.1.f.st.toNat,.int .i64 x.1.f.fm.toNat,.int .i64 x.1.f.grp.toNat,.string (B x.1.f.body),.int .i64 at2])=wd at*;have f1:=Y1.out.six;have f2:=Y2.out.six;have f3:=Y1.out.free 5;have f4:=Y2.out.free 5;have P1:=Lib.hid (BX1.out.below LK.out);have P2:=Lib.hid (BX2.out.below LK.out);go_upto_region 31 with fail
           have LM:=Lib.hid ((LK.out.setCell (p:=⟨bu,5,none⟩) hu1 (.int .i64 0)).setCell (p:=⟨bv,5,none⟩) hv1 (.int .i64 0));have Z1:Hid (Bx _ bu #[.string (B x.1.f.id),.int .i64 x.1.f.st.toNat,.int .i64 x.1.f.fm.toNat,.int .i64 x.1.f.grp.toNat,.string (B x.1.f.body),.int .i64 0] 68):=Lib.hid ((Y1.out.put 5 (.int .i64 0)).set (k:=bv) hne 5 (.int .i64 0));have Z2:Hid (Bx _ bv #[.string (B x.1.f.id),.int .i64 x.1.f.st.toNat,.int .i64 x.1.f.fm.toNat,.int .i64 x.1.f.grp.toNat,.string (B x.1.f.body),.int .i64 0] 68):=Lib.hid ((Y2.out.set (k:=bu) (fun e=>hne e.symm) 5 (.int .i64 0)).put 5 (.int .i64 0));clear f1 f2 f3 f4 Y1 Y2 P1 P2 LK;generalize ((wd.setCell ⟨bu,5,none⟩ (.int .i64 0)).setCell ⟨bv,5,none⟩ (.int .i64 0))=we at*;have f1:=Z1.out.six;have f2:=Z2.out.six;have P1:=Lib.hid (BX1.out.below LM.out);have P2:=Lib.hid (BX2.out.below LM.out);have g1:=P1.out.cell 6;have g2:=P2.out.cell 6;have LN:=Lib.hid (LC.out.trans (LM.out.mono LC.out.size));go_wp2_with fail
           clear f1 f2 g1 g2 Z1 Z2 P1 P2;go_loopw [162] (fun i wx=>BlRel we m i wx) (fun i _=>m - (intOf i).toNat)
           case atStart=>exact⟨0,Nat.zero_le _,rfl,Lib.hid (Below.refl _ _)⟩
           case round=>
            obtain⟨j,hj,rfl,LW⟩:=hrel;have LT:=Lib.hid (LN.out.trans (LW.out.mono LN.out.size));have hb2:=(BX2.out.below LM.out).below LW.out;by_cases hjl:j<m
            · obtain⟨p,hp⟩:∃p,x.1.ps[j]? =some p:=⟨_,List.getElem?_eq_getElem (by have:=HM.out;omega)⟩
              obtain⟨q,hq,hqr,hqt⟩:=ZaV.at_ HSP.out hp;obtain⟨ad2,rfl,hadb2,p0,p1,p2,p3⟩:=((HP5.out.below (L9.out.trans (LT.out.mono L9.out.size))).more (Nat.le_trans L9.out.size LT.out.size)).pc4 hp;have LT1:=LT.out.alloc LT.out.size (.cells #[.string p.nm,.bool p.raw,.string (B p.text),.int .i64 p.set] 39);obtain⟨ae2,rfl,haeb2,q0,q1,q2,q3⟩:=((HP6.out.below LT1).more LT1.size).pc4 hq;rw [hqr] at q1;rw [hqt] at q2;have hw8:=LT1.size;clear LT1 hp hq hqr hqt q0 q3;have g6:=(hb2.alloc (.cells #[.string p.nm,.bool p.raw,.string (B p.text),.int .i64 p.set] 39)).cell 6;have bp:=Bx.new wr #[.string p.nm,.bool p.raw,.string (B p.text),.int .i64 p.set] 39;have LX:=Lib.hid (LW.out.alloc LW.out.size (.cells #[.string p.nm,.bool p.raw,.string (B p.text),.int .i64 p.set] 39));go_upto_region 36 with fail
              clear p0 p1 p2 p3;generalize (wr.alloc (.cells #[.string p.nm,.bool p.raw,.string (B p.text),.int .i64 p.set] 39))=wf at*;generalize wr.heap.size=G at*;have b1:=bp.cell 1;have b2:=bp.cell 2;refine ZeL (fun w'=>w'.cell? ⟨G,1,none⟩=some (.bool p.raw)∧w'.cell? ⟨G,2,none⟩=some (.string (B p.text))∧w'.cell? ⟨P+1,6,none⟩=some (.slice (some ae2) m c6)∧w'.cell? ⟨(ae2.add (j*4)).block,(ae2.add (j*4)).off+1,none⟩=some (.bool p.raw)∧w'.cell? ⟨(ae2.add (j*4)).block,(ae2.add (j*4)).off+2,none⟩=some (.string (B p.text))) [(0,true),(1,true),(2,true),(3,true),(4,true),(5,true),(6,true),(7,true),(8,true),(9,true),(10,true),(11,true),(12,true),(13,true),(14,true),(15,true),(16,true),(17,true),(18,true),(19,true)] (by kernel_rfl) (by kernel_rfl) (by kernel_rfl) (Nat.le_of_ble_eq_true rfl) (fun _ _ d _ _ h=>by cases d<;>exact h) ⟨b1,b2,g6,q1,q2⟩ ?_
              iterate 20 (refine' ZbS rfl (by rfl) _ (fun w' hSw=>_) _;rotate_left;(obtain⟨s0,s1,s2,s3,s4⟩:=hSw;go_simp;try with_reducible rfl);try simp only [Act.put,List.setIfInBounds_toArray,List.set_cons_zero,List.set_cons_succ])
              refine ZdT ?_;go_wp2_with fail
              go_roundw
              case rel=>exact⟨j+1,by omega,by go_num,Lib.hid LX.out.drew⟩
              case measure=>simp [intOf];omega
            · obtain rfl:j=m:=by omega
              clear hb2;go_wp2_with fail
              go_roundw
              case rel=>exact⟨k+1,by omega,by go_num,LT⟩
              case measure=>simp [intOf];omega
       · obtain rfl:k=xs.length:=by omega
         have hnf:=HNF.out wr (L9.out.trans (LR.out.mono L9.out.size));have o4:=UR.out.o.four;go_wp2_with (first
          |(go_at_call 10;refine hnf.mono ?_;clear hnf;rintro e w11 ⟨rfl,hb11⟩;have LD:=Lib.hid (((L9.out.trans (LR.out.mono L9.out.size)).trans (hb11.mono (Nat.le_trans L9.out.size LR.out.size))).alloc (Nat.le_trans (Nat.le_trans L9.out.size LR.out.size) hb11.size) (.cells #[.int .i64 0,.int .i64 0] 62));clear hb11)
          |(go_at_call 7;refine(hbn _).mono ?_;rintro e w12 ⟨rfl,hb12⟩;have LE:=Lib.hid (LD.out.trans (hb12.mono LD.out.size));clear hb12))
         go_ret
         exact⟨rfl,LE.out⟩
end Go.Proofs.YtecandjkbbpooaaGreatDoor
