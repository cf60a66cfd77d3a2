/- Lemmas for a statement on the tops; conditions: as each says. -/
import Derived.Test.YtnbkfkbcpfkddaaGreatDoorM43
import Derived.Test.YtnbkfkbcpfkddaaGreatDoorM49
set_option linter.unusedVariables false
set_option linter.unusedSimpArgs false
set_option maxRecDepth 100000
set_option maxHeartbeats 1000000
namespace Go.Proofs.YtnbkfkbcpfkddaaGreatDoor
open Go Go.RowKit
structure Wk (w:World):Prop where
 grd:Grd w
 st:ZfO w
theorem Wk.below {w w':World} (h:Wk w)(hb:Below w.heap.size w w'):Wk w' where
 grd:=h.grd.below hb
 st:=fun j u hu=>by
  have hc:=h.st j u hu;have hlt:0<w.heap.size:=by
   simp only [World.cell?] at hc;cases hq:w.heap[0]? with
   |none=>rw [hq] at hc;cases hc
   |some o=>exact(Array.getElem?_eq_some_iff.1 hq).1
  exact(hb.cell (p:=⟨0,0+j,none⟩) hlt).trans hc
theorem Znc {f:Nat} (h:Ev.ToldOk (Ev.tAw f))(w:World)(hG:Ev.Gl w):Calls Tryz.prog f #[] w fun e w'=>e= .returned (.bool true)∧Below w.heap.size w w':=by
 have:=h w hG (fun _=>none) [] trivial;refine this.mono ?_;rintro e w' ⟨V,rfl,hV,hb⟩;have e:V= .bool true:=hV (fun _=>none);subst e;exact⟨rfl,hb⟩
theorem Aw_top (w:World)(hG:Ev.Gl w):Calls Tryz.prog 4 #[] w fun e w'=>e= .returned (.bool true)∧Below w.heap.size w w':=by
 have h:=Znc Ev.aw29 w hG;go_enter Tryz.func4,Tryz.ntmps4
 go_wp2_with (go_at_call 13;refine h.mono ?_;clear h;rintro e w1 ⟨rfl,hb1⟩;have B1:=Lib.hid hb1;clear hb1)
 go_ret
 exact⟨rfl,B1.out⟩
section
variable {x:Sx}
theorem ZhK (hc:CkS x)(hl:LightO x)(ht:SxTy x)(kd:Int)(hk:kd=2∨kd=0)(fb:Nat)(hfb:fb≤9)(det:Bool)(w:World)(hw:Wk w):
 Calls Tryz.prog 9 #[.string (B (prS x)),.agg #[.int .i64 kd,.int .i64 fb,.bool det,.int .i64 0]] w fun e w'=>∃T,e= .returned (.tuple #[.agg T,.agg #[.int .i64 0,.int .i64 0]])∧Zby x w.heap.size T w'∧Below w.heap.size w w':=by
 have hsn:∀wx,Below w.heap.size w wx→Calls Tryz.prog 20 #[.string (B (prS x))] wx fun e w'=>e= .returned (.tuple #[.int .i64 2,.bool true])∧Below wx.heap.size wx w':=fun wx hb=>by
  obtain⟨r,hr⟩:=ZpE x;rw [hr];exact Zl1 r wx (hw.below hb).2
 exact ZlW (B (prS x)) kd fb 0 det x w (hk.imp id fun h=>⟨h,hsn⟩) fun wx hb=>Zmb x hc hl ht kd 0 fb det hfb wx (hw.below hb).1
theorem Zo3 (hc:CkS x)(hl:LightO x)(ht:SxTy x)(T:Array Value)(w:World)(hG:Grd w)(h:Zby x 0 T w):
 Calls Tryz.prog 25 #[.agg T] w fun e w'=>e= .returned (.tuple #[.string (B (prS x)),.agg #[.int .i64 0,.int .i64 0]])∧Below w.heap.size w w':=by
 obtain⟨vn,vso,hT,hI⟩:=h;obtain⟨AN,cN,hv1,hr1⟩:=RdN.of_rows Zde hI.ns;obtain⟨A,c,hv2,hr2⟩:=hI.so.rd Zb2;refine ZmW T _ _ _ _ _ _ _ _ _ _ _ hT (B (prS x)) w fun wy hb=> ?_;have:=ZhS x.up (ZoI hl) (ty_up ht) 7 A AN c cN wy (hG.below hb) ((hr2.below hb).more hb.size) ((hr1.below hb).more hb.size);unfold spR CpV at this;rw [if_pos (ZcY.2 (ckS_up hc)),prS_up] at this;rw [hv1,hv2];exact this.mono fun e w' h=>⟨h.2,h.1⟩
theorem ZhO (hc:CkS x)(hl:LightO x)(ht:SxTy x)(kd:Int)(hk:kd=2∨kd=0)(fb:Nat)(hfb:fb≤6)(det:Bool)(w:World)(hw:Wk w):
 Calls Tryz.prog 10 #[.string (B (prS x)),.agg #[.int .i64 kd,.int .i64 fb,.bool det,.int .i64 0]] w fun e w'=>e= .returned (.tuple #[.string (B (prS x)),.agg #[.int .i64 0,.int .i64 0]])∧Below w.heap.size w w':=by
 have hlen:=ZgX hc hl ht;have hsz:=Zm (prS x);have hra:Zcn kd fb 0=true:=by unfold Zcn;rw [decide_eq_true_eq];omega
 refine Zl7 (B (prS x)) (by omega) kd fb det hra (B (prS x)) (by omega) (fun T wx=>Grd wx∧Zby x 0 T wx)
  (fun T w1 w2 h hb=>⟨h.1.below hb,h.2.below hb⟩) w ?_ ?_
 · intro wx hb;refine(ZhK hc hl ht kd hk fb (by omega) det wx (hw.below hb)).mono ?_;rintro e w' ⟨T,rfl,hT,hb2⟩;have hT2:=hT.low (Nat.zero_le _);obtain⟨vn,vso,hTe,hI⟩:=hT;obtain⟨A1,n1,c1,hv1⟩:=Zb5 hI.ns;obtain⟨A2,c2,hv2⟩:=hI.so.sl;refine⟨T,rfl,⟨by rw [hTe];rfl,?_⟩,⟨((hw.below hb).below hb2).1,hT2⟩,hb2⟩;rw [hTe,hv1,hv2];exact ZeZ x A1 A2 n1 c1 _ c2
 · rintro T wx hs ⟨hG,hT⟩;exact Zo3 hc hl ht T wx hG hT
end
end Go.Proofs.YtnbkfkbcpfkddaaGreatDoor
