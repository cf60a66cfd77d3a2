/- Lemmas for TopVersions; conditions: as each says. -/
import Derived.Test.YtlhllehffkoloaaGreatDoorM34
import Derived.Test.YtlhllehffkoloaaGreatDoorM42
import Derived.Test.YtlhllehffkoloaaGreatDoorM43
set_option linter.unusedVariables false
set_option linter.unusedSimpArgs false
set_option maxRecDepth 100000
set_option maxHeartbeats 40000000
namespace Go.Proofs.YtlhllehffkoloaaGreatDoor
open Go Go.RowKit
theorem Zk8 {f:Nat} (h:Ev.ToldOk (Ev.tAw f))(w:World)(hG:Ev.Gl w):Calls Tryz.prog f #[] w fun e w'=>e= .returned (.bool true)∧Below w.heap.size w w':=by
 have:=h w hG (fun _=>none) [] trivial;refine this.mono ?_;rintro e w' ⟨V,rfl,hV,hb⟩;have e:V= .bool true:=hV (fun _=>none);subst e;exact⟨rfl,hb⟩
theorem Aw_top (w:World)(hG:Ev.Gl w):Calls Tryz.prog 4 #[] w fun e w'=>e= .returned (.bool true)∧Below w.heap.size w w':=by
 have h:=Zk8 Ev.aw29 w hG;go_enter Tryz.func4,Tryz.ntmps4
 go_wp2_with (go_at_call 13;refine h.mono ?_;clear h;rintro e w1 ⟨rfl,hb1⟩;have B1:=Lib.hid hb1;clear hb1)
 go_ret
 exact⟨rfl,B1.out⟩
structure VrSt (w wx:World)(X:Nat)(v:Nat)(sp:Bool)(t:List UInt8)(vl:Value):Prop where
 tg:Bx wx X #[.int .i64 v,.int .u8 0,.int .u8 (flT sp).toNat,vl] 36
 rows:Zg frV w.heap.size wx vl [frT v sp t 0]
 low:Below w.heap.size w wx
structure VbSt (w wx:World)(F:Nat)(R T:Array Value):Prop where
 row:Bx wx F R 33
 tg:Bx wx (F+1) T 36
 low:Below w.heap.size w wx
 hF:w.heap.size≤F
theorem VbSt.new {w w3:World} (h:Below w.heap.size w w3)(R T:Array Value):VbSt w ((w3.alloc (.cells R 33)).alloc (.cells T 36)) w3.heap.size R T:=
 ⟨(Bx.new w3 _ _).alloc _,by have:=Bx.new (w3.alloc (.cells R 33)) T 36;rw [World.size_alloc] at this;exact this,(h.alloc h.size _).alloc (by rw [World.size_alloc];have:=h.size;omega) _,h.size⟩
theorem VbSt.putT {w wx:World} {F:Nat} {R T:Array Value} (h:VbSt w wx F R T)(j:Nat)(v:Value):VbSt w (wx.setCell ⟨F+1,j,none⟩ v) F R (T.setIfInBounds j v):=
 ⟨h.row.set (by omega) j v,h.tg.put j v,h.low.setCell (by show w.heap.size≤F+1;have:=h.hF;omega) v,h.hF⟩
theorem VbSt.putR {w wx:World} {F:Nat} {R T:Array Value} (h:VbSt w wx F R T)(j:Nat)(v:Value):VbSt w (wx.setCell ⟨F,j,none⟩ v) F (R.setIfInBounds j v) T:=
 ⟨h.row.put j v,h.tg.set (by omega) j v,h.low.setCell (by show w.heap.size≤F;exact h.hF) v,h.hF⟩
theorem VbSt.vr {w wx:World} {F v:Nat} {sp:Bool} {t:List UInt8} {R T:Array Value} (h:VbSt w wx F R T)(hR:R=(frV (frT v sp t 0)).toArray)(hT:T=#[.int .i64 v,.int .u8 0,.int .u8 (flT sp).toNat,.slice (some ⟨F,0,none⟩) 1 1]):VrSt w wx (F+1) v sp t (.slice (some ⟨F,0,none⟩) 1 1):=by
 subst hR hT;refine⟨h.tg,.inr ⟨F,1,by simp,rfl,Nat.le_refl _,h.hF,h.row.lt,fun j u hu=> ?_⟩,h.low⟩;rw [h.row.cell j];simpa using hu
structure VcSt (w wx:World)(P5 P6 K:Nat)(T:Array Value)(vi:Value)(its:List It):Prop where
 a:Bx wx P5 #[.int .i64 0,.int .i64 0] 39
 b:Bx wx P6 #[.int .i64 0,.int .i64 0] 39
 c:Bx wx (K+1) #[.int .i64 0,.int .i64 0] 39
 t:Bx wx K T 67
 i:Zaq 0 wx vi its
 low:Below w.heap.size w wx
theorem VcSt.below {w wx wy:World} {P5 P6 K:Nat} {T:Array Value} {vi:Value} {its:List It} (h:VcSt w wx P5 P6 K T vi its)(hb:Below wx.heap.size wx wy):VcSt w wy P5 P6 K T vi its:=
 ⟨h.a.below hb,h.b.below hb,h.c.below hb,h.t.below hb,h.i.below hb,h.low.trans (hb.mono h.low.size)⟩
theorem VcSt.cells {w wx:World} {P5 P6 K v b:Nat} {sp:Bool} {t:List UInt8} {T:Array Value} {vi:Value} (h:VcSt w wx P5 P6 K T vi [itT v sp t b])(h4:T[4]? =some vi):
 ∃bk cc bp c5,vi= .slice (some ⟨bk,0,none⟩) 1 cc∧wx.cell? ⟨K,4,none⟩=some (.slice (some ⟨bk,0,none⟩) 1 cc)∧wx.cell? ⟨bk,6,none⟩=some (.slice (some ⟨bp,0,none⟩) 1 c5)∧wx.cell? ⟨bp,2,none⟩=some (.string (B t)):=by
 obtain⟨xs,h1,h2,h3⟩:=h.i;obtain⟨s,hxs⟩:∃s,xs=[(itT v sp t b,s)]:=by
  clear h2 h3;rcases xs with _|⟨x,_|⟨y,l⟩⟩
  · simp at h1
  · simp only [List.map_cons,List.map_nil,List.cons.injEq,and_true] at h1;exact⟨x.2,by rw [←h1]⟩
  · simp at h1
 subst hxs;have hs:=h3 _ (List.mem_cons_self ..);rcases h2 with⟨q,_⟩|⟨bk,cc,_,hvi,_,_,_,hc⟩
 · cases q
 · rcases hs with⟨q,_⟩|⟨bp,c5,_,hsv,_,_,_,hd⟩
   · cases q
   · simp only at hsv;have a6:=(Zg.at7 hc (k:=0) rfl).2.2.2.2.2.2;have a2:=(Zg.at4 hd (k:=0) rfl).2.2.1;refine⟨bk,cc,bp,c5,hvi,?_,?_,a2⟩
     · rw [h.t.cell 4,h4,hvi];rfl
     · rw [show 0*7+6=6 from rfl] at a6;rw [a6,hsv];rfl
theorem ZjC (v:Nat)(fl:UInt8)(vi:Value){B0:Nat} {w:World} {l:List It} (h:Zaq B0 w vi l):(T67 1 v 0 fl vi []).size=25∧(T67 1 v 0 fl vi []).all (·.oneCell')=true∧(T67 1 v 0 fl vi [])[4]? =some vi:=by
 obtain⟨A,n,c,hv⟩:=ZgS h;subst hv;exact⟨rfl,ZcT _ _ _ _ _ _ rfl,rfl⟩
theorem ZqY (t:List UInt8)(ht:t.length≤35184372088000)(sp:Bool)(w:World)(hG:Ev.Gl w)(hw:Wk w):
 Calls Tryz.prog 3 #[.string (B t),.bool sp] w fun e w'=>e= .returned (.bool true)∧Below w.heap.size w w':=by
 have haw:=Aw_top w hG;have hsz:=Zn t;have h15:∀wx,Below w.heap.size w wx→Calls Tryz.prog 12 #[] wx fun e w'=>e= .returned (.bool true)∧Below wx.heap.size wx w':=fun wx hx=>Zk8 Ev.aw15 wx (hG.below hx);have HW:=Lib.hid hw;rcases Zmp (B t) with⟨ps,hg⟩|⟨n,hn⟩
 · have hpt:=fun w=>Zkz (B t) ps hg (by omega) w;by_cases hlen:t.length≤100
   · have hl1:¬100<(t.length:Int):=by omega
     have hlp:ps.length≤100:=by have:=hg.len;omega
     have hu:=Zwd hg;go_enter Tryz.func3,Tryz.ntmps3
     go_upto_region 6 with(first
      |(go_at_call 4;refine haw.mono ?_;clear haw;rintro e w1 ⟨rfl,hb1⟩;have B1:=Lib.hid hb1;clear hb1)
      |(go_at_call 5;refine(hpt _).mono ?_;clear hpt;rintro e w2 ⟨A,c,rfl,hc,hn,hb2⟩;have B2:=Lib.hid (B1.out.trans (hb2.mono B1.out.size));clear hb2 hn hc))
     have htp:∀(v:Nat) (wx:World) (X:Nat) (A:Option Addr) (c:Nat),v=2∨v=3∨v=4→VrSt w wx X v sp t (.slice A 1 c)→Calls Tryz.prog 8 #[.agg #[.int .i64 v,.int .u8 0,.int .u8 (flT sp).toNat,.slice A 1 c]] wx fun e w'=>e= .returned (.tuple #[.string (B (ZJ (tgT v sp t 0))),.agg #[.int .i64 0,.int .i64 0]])∧Below wx.heap.size wx w':=by
      intro v wx X A c hv hs;have hall:=Zgp (v:=v) (sp:=sp) (a:=0) hu hlen;refine ZkO v 0 (flT sp) A c [frT v sp t 0] w.heap.size wx hs.rows (by show 1≤100000;omega) ?_ (ZjV hv) (Zls hv) ?_ ?_ (by rw [Int.toNat_natCast];omega)
      · intro f hf;simp only [List.mem_singleton] at hf;subst hf;show(Z1 v).length≤1000000000
        unfold Z1;split<;>decide
      · intro f hf;simp only [List.mem_singleton] at hf;subst hf;exact Zi3 hv
      · intro h2 f hf;simp only [List.mem_singleton] at hf;subst hf;have h22:v=2:=by omega
        subst h22;have:=ZgQ (v:=2) (sp:=sp) (a:=0) hu hlen;omega
     have hnf:∀(v:Nat) (wx:World),v=2∨v=3∨v=4→Below w.heap.size w wx→_:=fun v wx hv hx=>NormT (v:=v) (sp:=sp) hv hu hlen wx (HW.out.below hx);have hfl:∀(v:Nat) (wx:World),v=2∨v=3∨v=4→Below w.heap.size w wx→_:=fun v wx hv hx=>FileT (v:=v) (sp:=sp) hv hu hlen wx (HW.out.below hx);have htt:=fun(v:Nat) w=>ZqX v w;have hsg:=fun(v:Nat) w=>ZqA v t ps hg hlen w;have hbd:=fun w=>Z0 0 0 rfl w;have HTP:=Lib.hid htp;have HNF:=Lib.hid hnf;have HFL:=Lib.hid hfl;clear htp hnf hfl hu hlen hl1;go_wp2_with fail
     go_loopw [7] (fun i wr=>∃v:Nat,2≤v∧v≤5∧i= .int .i64 v∧Below w.heap.size w wr) (fun i _=>5 - (intOf i).toNat)
     case atStart=>exact⟨2,by omega,by omega,rfl,B2.out⟩
     case round=>
      obtain⟨v,hv2,hv5,rfl,hlow⟩:=hrel;have L:=Lib.hid hlow;clear hlow;by_cases hv4:v≤4
      · have hv:v=2∨v=3∨v=4:=by omega
        have hle:(v:Int)≤4:=by omega
        have htp:=fun wx X A c h=>HTP.out v wx X A c hv h;have hnf:=fun wx h=>HNF.out v wx hv h;have hfl:=fun wx h=>HFL.out v wx hv h;have htt2:=htt v;have hsg2:=hsg v;clear htt hsg;go_upto_region 10 with(first
         |(go_at_call 6;refine(htt2 _).mono ?_;rintro e w1 ⟨rfl,rfl⟩)
         |(go_at_call 7;refine(hsg2 _).mono ?_;rintro e w3 ⟨rfl,hb3⟩;have L3:=Lib.hid (L.out.trans (hb3.mono L.out.size));clear hb3))
        have R0:=Lib.hid (VbSt.new L3.out #[.string (B (Z1 v)),.int .u8 0,.int .u8 0,.int .u8 0,.string (B (ZaI v t)),.int .i64 0] #[.int .i64 v,.int .u8 0,.int .u8 0,.slice (some ⟨w3.heap.size,0,none⟩) 1 1]);generalize ((w3.alloc (.cells #[.string (B (Z1 v)),.int .u8 0,.int .u8 0,.int .u8 0,.string (B (ZaI v t)),.int .i64 0] 33)).alloc (.cells #[.int .i64 v,.int .u8 0,.int .u8 0,.slice (some ⟨w3.heap.size,0,none⟩) 1 1] 36))=W0 at*;clear L3;generalize w3.heap.size=F at*;have x0:=R0.out.tg.cell 0;have x1:=R0.out.tg.cell 1;have x2:=R0.out.tg.cell 2;have x3:=R0.out.tg.cell 3;have xf:=R0.out.tg.free 2;have y2:=R0.out.row.cell 2;have yf:=R0.out.row.free 2;cases sp with
        |false=>
         have S:=Lib.hid (R0.out.vr (v:=v) (sp:=false) (t:=t) (by have:fmT v false=0:=(by unfold fmT;split<;>rfl);unfold frV frT;rw [this];rfl) rfl);generalize W0=W9 at*;clear R0 y2 yf xf;go_upto_region 17 with(first
          |(go_at_call 8;refine(htp _ _ _ _ S.out).mono ?_;rintro e w5 ⟨rfl,hb5⟩;have L5:=Lib.hid (S.out.low.trans (hb5.mono S.out.low.size));clear hb5 x0 x1 x2 x3 S)
          |(go_at_call 9;refine(hnf _ (L5.out.alloc L5.out.size _)).mono ?_;rintro e w6 ⟨rfl,hb6⟩;have F5:=Lib.hid ((Bx.new w5 #[.int .i64 0,.int .i64 0] 39).below hb6);have L6:=Lib.hid ((L5.out.alloc L5.out.size (.cells #[.int .i64 0,.int .i64 0] 39)).trans (hb6.mono (by rw [World.size_alloc];have:=L5.out.size;omega)));clear hb6)
          |(go_at_call 10;refine(hfl _ (L6.out.alloc L6.out.size _)).mono ?_;rintro e w7 ⟨vi,b,rfl,hit,hb7⟩;have F6:=Lib.hid ((Bx.new w6 #[.int .i64 0,.int .i64 0] 39).below hb7);have F7:=Lib.hid ((F5.out.alloc (.cells #[.int .i64 0,.int .i64 0] 39)).below hb7);have L7:=Lib.hid ((L6.out.alloc L6.out.size (.cells #[.int .i64 0,.int .i64 0] 39)).trans (hb7.mono (by rw [World.size_alloc];have:=L6.out.size;omega)));have I7:=Lib.hid (hit.low (Nat.zero_le _));have HT:=Lib.hid (ZjC v (flT false) vi hit);generalize T67 1 v 0 (flT false) vi []=T at*;clear hb7 hit F5)
          |(refine Zfb rfl 67 _ _ rfl _ _ T 39 rfl rfl (by rw [HT.out.1];kernel_rfl) (by rw [HT.out.1];rfl) HT.out.2.1 fun W8 b8 d8 h8=> ?_;have T8:=Lib.hid b8;have D8:=Lib.hid d8;have H8:=Lib.hid h8;have d80:=d8.cell 0;have d81:=d8.cell 1;have g80:=d8.free 0;have g81:=d8.free 1;clear b8 d8 h8))
         have HB:=Lib.hid ((H8.out.setCell (p:=⟨w7.heap.size+1,0,none⟩) (Nat.le_succ _) (.int .i64 0)).setCell (p:=⟨w7.heap.size+1,1,none⟩) (Nat.le_succ _) (.int .i64 0));have V0:Hid (VcSt w _ w5.heap.size w6.heap.size w7.heap.size T vi [itT v false t b]):=Lib.hid ⟨F7.out.below HB.out,F6.out.below HB.out,Zbo D8.out (.int .i64 0) (.int .i64 0),(T8.out.set (by omega) 0 (.int .i64 0)).set (by omega) 1 (.int .i64 0),I7.out.below HB.out,L7.out.trans (HB.out.mono L7.out.size)⟩;clear HB T8 D8 H8 d80 d81 g80 g81 F6 F7 L7 I7;generalize ((W8.setCell ⟨w7.heap.size+1,0,none⟩ (.int .i64 0)).setCell ⟨w7.heap.size+1,1,none⟩ (.int .i64 0))=W9 at*;generalize w5.heap.size=P5 at*;generalize w6.heap.size=P6 at*;generalize w7.heap.size=K at*;have q0:=V0.out.a.cell 0;have q1:=V0.out.a.cell 1;go_wp2_with (first
          |(go_at_call 11;refine(hbd _).mono ?_;rintro e wa ⟨rfl,hba⟩;have V1:=Lib.hid (V0.out.below hba);clear hba V0 q0 q1;have q0:=V1.out.b.cell 0;have q1:=V1.out.b.cell 1)
          |(go_at_call 11;refine(hbd _).mono ?_;rintro e wb ⟨rfl,hbb⟩;have V2:=Lib.hid (V1.out.below hbb);clear hbb V1 q0 q1;have q0:=V2.out.c.cell 0;have q1:=V2.out.c.cell 1)
          |(go_at_call 11;refine(hbd _).mono ?_;rintro e wc ⟨rfl,hbc⟩;have V3:=Lib.hid (V2.out.below hbc);clear hbc V2 q0 q1;obtain⟨bk,cc,bp,c5,hvi,e4,e6,e2⟩:=V3.out.cells HT.out.2.2;subst hvi))
         have V4:=Lib.hid V3.out.low;go_roundw
         case rel=>exact⟨v+1,by omega,by omega,by first|rfl|go_num,V4.out⟩
         case measure=>first|(simp [intOf];done)|(simp [intOf];omega)
        |true=>
         by_cases h4:v=4
         · subst h4;go_upto_region 14 with fail
           have S:=Lib.hid (((R0.out.putT 2 (.int .u8 128)).putR 2 (.int .u8 2)).vr (v:=4) (sp:=true) (t:=t) rfl rfl);clear R0 x0 x1 x2 x3 xf y2 yf;generalize ((W0.setCell ⟨F+1,2,none⟩ (.int .u8 128)).setCell ⟨F,2,none⟩ (.int .u8 2))=W9 at*;have x0:=S.out.tg.cell 0;have x1:=S.out.tg.cell 1;have x2:=S.out.tg.cell 2;have x3:=S.out.tg.cell 3;go_upto_region 17 with(first
            |(go_at_call 8;refine(htp _ _ _ _ S.out).mono ?_;rintro e w5 ⟨rfl,hb5⟩;have L5:=Lib.hid (S.out.low.trans (hb5.mono S.out.low.size));clear hb5 x0 x1 x2 x3 S)
            |(go_at_call 9;refine(hnf _ (L5.out.alloc L5.out.size _)).mono ?_;rintro e w6 ⟨rfl,hb6⟩;have F5:=Lib.hid ((Bx.new w5 #[.int .i64 0,.int .i64 0] 39).below hb6);have L6:=Lib.hid ((L5.out.alloc L5.out.size (.cells #[.int .i64 0,.int .i64 0] 39)).trans (hb6.mono (by rw [World.size_alloc];have:=L5.out.size;omega)));clear hb6)
            |(go_at_call 10;refine(hfl _ (L6.out.alloc L6.out.size _)).mono ?_;rintro e w7 ⟨vi,b,rfl,hit,hb7⟩;have F6:=Lib.hid ((Bx.new w6 #[.int .i64 0,.int .i64 0] 39).below hb7);have F7:=Lib.hid ((F5.out.alloc (.cells #[.int .i64 0,.int .i64 0] 39)).below hb7);have L7:=Lib.hid ((L6.out.alloc L6.out.size (.cells #[.int .i64 0,.int .i64 0] 39)).trans (hb7.mono (by rw [World.size_alloc];have:=L6.out.size;omega)));have I7:=Lib.hid (hit.low (Nat.zero_le _));have HT:=Lib.hid (ZjC 4 (flT true) vi hit);generalize T67 1 4 0 (flT true) vi []=T at*;clear hb7 hit F5)
            |(refine Zfb rfl 67 _ _ rfl _ _ T 39 rfl rfl (by rw [HT.out.1];kernel_rfl) (by rw [HT.out.1];rfl) HT.out.2.1 fun W8 b8 d8 h8=> ?_;have T8:=Lib.hid b8;have D8:=Lib.hid d8;have H8:=Lib.hid h8;have d80:=d8.cell 0;have d81:=d8.cell 1;have g80:=d8.free 0;have g81:=d8.free 1;clear b8 d8 h8))
           have HB:=Lib.hid ((H8.out.setCell (p:=⟨w7.heap.size+1,0,none⟩) (Nat.le_succ _) (.int .i64 0)).setCell (p:=⟨w7.heap.size+1,1,none⟩) (Nat.le_succ _) (.int .i64 0));have V0:Hid (VcSt w _ w5.heap.size w6.heap.size w7.heap.size T vi [itT 4 true t b]):=Lib.hid ⟨F7.out.below HB.out,F6.out.below HB.out,Zbo D8.out (.int .i64 0) (.int .i64 0),(T8.out.set (by omega) 0 (.int .i64 0)).set (by omega) 1 (.int .i64 0),I7.out.below HB.out,L7.out.trans (HB.out.mono L7.out.size)⟩;clear HB T8 D8 H8 d80 d81 g80 g81 F6 F7 L7 I7;generalize ((W8.setCell ⟨w7.heap.size+1,0,none⟩ (.int .i64 0)).setCell ⟨w7.heap.size+1,1,none⟩ (.int .i64 0))=W9 at*;generalize w5.heap.size=P5 at*;generalize w6.heap.size=P6 at*;generalize w7.heap.size=K at*;have q0:=V0.out.a.cell 0;have q1:=V0.out.a.cell 1;go_wp2_with (first
            |(go_at_call 11;refine(hbd _).mono ?_;rintro e wa ⟨rfl,hba⟩;have V1:=Lib.hid (V0.out.below hba);clear hba V0 q0 q1;have q0:=V1.out.b.cell 0;have q1:=V1.out.b.cell 1)
            |(go_at_call 11;refine(hbd _).mono ?_;rintro e wb ⟨rfl,hbb⟩;have V2:=Lib.hid (V1.out.below hbb);clear hbb V1 q0 q1;have q0:=V2.out.c.cell 0;have q1:=V2.out.c.cell 1)
            |(go_at_call 11;refine(hbd _).mono ?_;rintro e wc ⟨rfl,hbc⟩;have V3:=Lib.hid (V2.out.below hbc);clear hbc V2 q0 q1;obtain⟨bk,cc,bp,c5,hvi,e4,e6,e2⟩:=V3.out.cells HT.out.2.2;subst hvi))
           have V4:=Lib.hid V3.out.low;go_roundw
           case rel=>exact⟨4+1,by omega,by omega,by first|rfl|go_num,V4.out⟩
           case measure=>first|(simp [intOf];done)|(simp [intOf];omega)
         · have h4':((v:Int)==4)=false:=by rw [beq_eq_false_iff_ne];omega
           go_upto_region 14 with fail
           have S:=Lib.hid ((R0.out.putT 2 (.int .u8 128)).vr (v:=v) (sp:=true) (t:=t) (by have:fmT v true=0:=(by unfold fmT;rw [if_neg h4]);unfold frV frT;rw [this];rfl) rfl);clear R0 x0 x1 x2 x3 xf y2 yf h4 h4';generalize (W0.setCell ⟨F+1,2,none⟩ (.int .u8 128))=W9 at*;have x0:=S.out.tg.cell 0;have x1:=S.out.tg.cell 1;have x2:=S.out.tg.cell 2;have x3:=S.out.tg.cell 3;go_upto_region 17 with(first
            |(go_at_call 8;refine(htp _ _ _ _ S.out).mono ?_;rintro e w5 ⟨rfl,hb5⟩;have L5:=Lib.hid (S.out.low.trans (hb5.mono S.out.low.size));clear hb5 x0 x1 x2 x3 S)
            |(go_at_call 9;refine(hnf _ (L5.out.alloc L5.out.size _)).mono ?_;rintro e w6 ⟨rfl,hb6⟩;have F5:=Lib.hid ((Bx.new w5 #[.int .i64 0,.int .i64 0] 39).below hb6);have L6:=Lib.hid ((L5.out.alloc L5.out.size (.cells #[.int .i64 0,.int .i64 0] 39)).trans (hb6.mono (by rw [World.size_alloc];have:=L5.out.size;omega)));clear hb6)
            |(go_at_call 10;refine(hfl _ (L6.out.alloc L6.out.size _)).mono ?_;rintro e w7 ⟨vi,b,rfl,hit,hb7⟩;have F6:=Lib.hid ((Bx.new w6 #[.int .i64 0,.int .i64 0] 39).below hb7);have F7:=Lib.hid ((F5.out.alloc (.cells #[.int .i64 0,.int .i64 0] 39)).below hb7);have L7:=Lib.hid ((L6.out.alloc L6.out.size (.cells #[.int .i64 0,.int .i64 0] 39)).trans (hb7.mono (by rw [World.size_alloc];have:=L6.out.size;omega)));have I7:=Lib.hid (hit.low (Nat.zero_le _));have HT:=Lib.hid (ZjC v (flT true) vi hit);generalize T67 1 v 0 (flT true) vi []=T at*;clear hb7 hit F5)
            |(refine Zfb rfl 67 _ _ rfl _ _ T 39 rfl rfl (by rw [HT.out.1];kernel_rfl) (by rw [HT.out.1];rfl) HT.out.2.1 fun W8 b8 d8 h8=> ?_;have T8:=Lib.hid b8;have D8:=Lib.hid d8;have H8:=Lib.hid h8;have d80:=d8.cell 0;have d81:=d8.cell 1;have g80:=d8.free 0;have g81:=d8.free 1;clear b8 d8 h8))
           have HB:=Lib.hid ((H8.out.setCell (p:=⟨w7.heap.size+1,0,none⟩) (Nat.le_succ _) (.int .i64 0)).setCell (p:=⟨w7.heap.size+1,1,none⟩) (Nat.le_succ _) (.int .i64 0));have V0:Hid (VcSt w _ w5.heap.size w6.heap.size w7.heap.size T vi [itT v true t b]):=Lib.hid ⟨F7.out.below HB.out,F6.out.below HB.out,Zbo D8.out (.int .i64 0) (.int .i64 0),(T8.out.set (by omega) 0 (.int .i64 0)).set (by omega) 1 (.int .i64 0),I7.out.below HB.out,L7.out.trans (HB.out.mono L7.out.size)⟩;clear HB T8 D8 H8 d80 d81 g80 g81 F6 F7 L7 I7;generalize ((W8.setCell ⟨w7.heap.size+1,0,none⟩ (.int .i64 0)).setCell ⟨w7.heap.size+1,1,none⟩ (.int .i64 0))=W9 at*;generalize w5.heap.size=P5 at*;generalize w6.heap.size=P6 at*;generalize w7.heap.size=K at*;have q0:=V0.out.a.cell 0;have q1:=V0.out.a.cell 1;go_wp2_with (first
            |(go_at_call 11;refine(hbd _).mono ?_;rintro e wa ⟨rfl,hba⟩;have V1:=Lib.hid (V0.out.below hba);clear hba V0 q0 q1;have q0:=V1.out.b.cell 0;have q1:=V1.out.b.cell 1)
            |(go_at_call 11;refine(hbd _).mono ?_;rintro e wb ⟨rfl,hbb⟩;have V2:=Lib.hid (V1.out.below hbb);clear hbb V1 q0 q1;have q0:=V2.out.c.cell 0;have q1:=V2.out.c.cell 1)
            |(go_at_call 11;refine(hbd _).mono ?_;rintro e wc ⟨rfl,hbc⟩;have V3:=Lib.hid (V2.out.below hbc);clear hbc V2 q0 q1;obtain⟨bk,cc,bp,c5,hvi,e4,e6,e2⟩:=V3.out.cells HT.out.2.2;subst hvi))
           have V4:=Lib.hid V3.out.low;go_roundw
           case rel=>exact⟨v+1,by omega,by omega,by first|rfl|go_num,V4.out⟩
           case measure=>first|(simp [intOf];done)|(simp [intOf];omega)
      · have hv:v=5:=by omega
        subst hv;go_wp2_with (go_at_call 12;refine(h15 _ L.out).mono ?_;clear h15;rintro e w3 ⟨rfl,hb3⟩;have B3:=Lib.hid (L.out.trans (hb3.mono L.out.size));clear hb3)
        go_ret
        exact⟨rfl,B3.out⟩
   · have hl1:100<(t.length:Int):=by omega
     go_enter Tryz.func3,Tryz.ntmps3
     go_wp2_with (first
      |(go_at_call 4;refine haw.mono ?_;clear haw;rintro e w1 ⟨rfl,hb1⟩;have B1:=Lib.hid hb1;clear hb1)
      |(go_at_call 5;refine(hpt _).mono ?_;clear hpt;rintro e w2 ⟨A,c,rfl,hc,hn,hb2⟩;have B2:=Lib.hid (B1.out.trans (hb2.mono B1.out.size));clear hb2 hn hc))
     go_ret
     exact⟨rfl,B2.out⟩
 · have hpt:=fun w=>Zqi (B t) n hn (by omega) w;have hn0:0≤(n:Int):=by omega
   by_cases hlen:t.length≤100
   · have hl1:¬100<(t.length:Int):=by omega
     go_enter Tryz.func3,Tryz.ntmps3
     go_wp2_with (first
      |(go_at_call 4;refine haw.mono ?_;clear haw;rintro e w1 ⟨rfl,hb1⟩;have B1:=Lib.hid hb1;clear hb1)
      |(go_at_call 5;refine(hpt _).mono ?_;clear hpt;rintro e w2 ⟨rfl,hb2⟩;have B2:=Lib.hid (B1.out.trans (hb2.mono B1.out.size));clear hb2))
     go_ret
     exact⟨rfl,B2.out⟩
   · have hl1:100<(t.length:Int):=by omega
     go_enter Tryz.func3,Tryz.ntmps3
     go_wp2_with (first
      |(go_at_call 4;refine haw.mono ?_;clear haw;rintro e w1 ⟨rfl,hb1⟩;have B1:=Lib.hid hb1;clear hb1)
      |(go_at_call 5;refine(hpt _).mono ?_;clear hpt;rintro e w2 ⟨rfl,hb2⟩;have B2:=Lib.hid (B1.out.trans (hb2.mono B1.out.size));clear hb2))
     go_ret
     exact⟨rfl,B2.out⟩
end Go.Proofs.YtlhllehffkoloaaGreatDoor
namespace Go.Proofs.YtlhllehffkoloaaGreatDoor
open Go Go.Proofs Go.ChangeShapes Go.WideShapes Go.ChangeAt Go.RowKit
theorem Zs0:Tryz.prog.funcs.any Func.goes=false:=by kernel_rfl
theorem Zs1 (P:Program)(f:String)(h:P.funcs.any Func.goes=false):false=P.goesFrom f:=by
 have h1:∀g:FuncId,(P.funcs[g]?).any Func.goes=false:=by
  intro g;cases hg:P.funcs[g]? with
  |none=>rfl
  |some fn=>
   rw [Array.any_eq_false] at h;obtain⟨hlt,e⟩:=Array.getElem?_eq_some_iff.1 hg;have:=h g hlt;rw [e] at this;simpa using this
 unfold Program.goesFrom;cases P.funcNamed f with
 |none=>rfl
 |some k=>
  simp only [Option.any_some,Program.goes,h,Bool.and_false,Bool.or_false];rw [eq_comm,List.any_eq_false];intro g _;rw [h1 g];decide
end Go.Proofs.YtlhllehffkoloaaGreatDoor
