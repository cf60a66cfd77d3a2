/- Lemmas for a statement on the tops; conditions: as each says. -/
import Derived.Test.YtnbkfkbcpfkddaaGreatDoorM25
set_option linter.unusedVariables false
set_option linter.unusedSimpArgs false
set_option maxRecDepth 100000
set_option maxHeartbeats 1000000
namespace Go.Proofs.YtnbkfkbcpfkddaaGreatDoor
open Go Go.RowKit
theorem Zk4 {c:Nat} (hc:c≤3):∀x∈Zw c, -2147483648≤x.2∧x.2<2147483648:=fun x hx=>by
 unfold Zw at hx;obtain⟨n,hn,rfl⟩:=List.mem_map.1 hx;have:=Zd1 (sgn_sc hc (List.mem_range.1 hn));simp only;omega
theorem ZhJ {c:Nat} (hc:c≤3){A:Option Addr} {cp:Nat} {q:Int} {rs:List (Rw×Sl)} (b:ByteArray)(hL:Zk rs=Zw c)(hb:b.size≤100000)(hn:rs.length≤4096)(w:World)(h:TbR w w.heap.size A rs)(hT:Zj w):
 Calls Tryz.prog 131 #[.agg #[.slice A rs.length cp,.int .i64 q],.string b] w fun e w'=>e= .returned (.tuple #[.string (tB (b.data.toList.map fun x=>ZaO c x.toNat)),.agg #[.int .i64 0,.int .i64 0]])∧Below w.heap.size w w':=by
 have h1:=ZmB A cp q rs b (Zw c) hL (Zk4 hc) hb (by omega) w h hT;unfold Zef at h1;rw [dc_set] at h1;exact h1
theorem ZlV {c:Nat} (hc:c≤3){A:Option Addr} {cp:Nat} {q:Int} {rs:List (Rw×Sl)} (s:ByteArray)(ps:List Int)(hg:Good s ps)(hL:Zk rs=Zw c)(hs:s.size≤100000)(hn:rs.length≤4096)(w:World)(h:TbR w w.heap.size A rs)(hT:Zj w):
 Calls Tryz.prog 335 #[.agg #[.slice A rs.length cp,.int .i64 q],.string s] w fun e w'=>e= .returned (Zeg (ecF (ZH (Zw c)) ps 0))∧Below w.heap.size w w':=
 ZmC A cp q rs s ps hg (Zw c) hL (Zk4 hc) hs (by omega) w h hT
theorem aw_dec:tB (([193,194]:List UInt8).map fun x=>ZaO 1 x.toNat)=⟨#[208,176,208,177]⟩:=by
 have h:Zd (([193,194]:List UInt8).map fun x=>ZaO 1 x.toNat)=[208,176,208,177]:=by decide+kernel
 unfold tB;rw [h]
theorem aw_enc:Zeg (ecF (ZH (Zw 0)) [1028] 0)= .tuple #[.string ⟨#[]⟩,.agg #[.int .i64 6,.int .i64 0]]:=by
 have h:(match ecF (ZH (Zw 0)) [1028] 0 with| .inr 0=>true|_=>false)=true:=by decide+kernel
 have h2:ecF (ZH (Zw 0)) [1028] 0= .inr 0:=by
  generalize ecF (ZH (Zw 0)) [1028] 0=r at h;split at h
  · rfl
  · cases h
 rw [h2];rfl
theorem two_c {w:World} {K:Nat} {a b:Value} {T:TypeId} {fr:Nat×Nat} (h:w.heap[K]? =some (.cells #[a,b] T fr)):w.cell? ⟨K,0,none⟩=some a∧w.cell? ⟨K,1,none⟩=some b:=
 ⟨by rw [cell_of_row _ K 0 _ _ _ h];rfl,by rw [cell_of_row _ K 1 _ _ _ h];rfl⟩
theorem stw {w W W':World} (h:Hid (Below w.heap.size w W∧Zj W))(hb:Below W.heap.size W W'):Hid (Below w.heap.size w W'∧Zj W'):=
 Lib.hid ⟨h.out.1.trans (hb.mono h.out.1.size),ZU h.out.2 hb (Nat.le_refl _)⟩
theorem al {w:World} (o:Obj):Below w.heap.size w (w.alloc o):=(Below.refl _ _).alloc (Nat.le_refl _) _
theorem tb_bl {w w':World} {A:Option Addr} {rs:List (Rw×Sl)} (h:TbR w w.heap.size A rs)(hb:Below w.heap.size w w'):TbR w' w'.heap.size A rs:=(h.below hb).more hb.size
theorem tb_al {w:World} {A:Option Addr} {rs:List (Rw×Sl)} (h:TbR w w.heap.size A rs)(o:Obj):TbR (w.alloc o) (w.alloc o).heap.size A rs:=tb_bl h (al o)
theorem Awake5 (w:World)(hT:Zj w):
 Calls Tryz.prog 282 #[] w fun e w'=>e= .returned (.bool true)∧Below w.heap.size w w':=by
 have HP:Hid (∀w',Below w.heap.size w w'→(fun e w'=>e=Ending.returned (.bool true)∧Below w.heap.size w w') (.returned (.bool true)) w'):=Lib.hid fun w' hb=>⟨rfl,hb⟩
 generalize (fun(e:Ending) (w':World)=>e=Ending.returned (.bool true)∧Below w.heap.size w w')=P at*;have ho1:=fun W h=>SOf_1 W h;have ho0:=fun W h=>SOf_0 W h;unfold ZaC at ho1 ho0;have G0:Hid (Below w.heap.size w w∧Zj w):=Lib.hid ⟨Below.refl _ _,hT⟩;go_enter Tryz.func282,Tryz.ntmps282
 go_wp2_with fail
 refine(ho1 _ hT).mono ?_;rintro e w1 ⟨A1,c1,rs1,rfl,h11,h12,h13,h14,hb1⟩;have G1:=stw (stw G0 hb1) (al (.cells #[.slice A1 rs1.length c1,.int .i64 1] 207));have HR1:=Lib.hid (tb_al h13 (.cells #[.slice A1 rs1.length c1,.int .i64 1] 207));have H14:=Lib.hid h14;clear h13 h14 hb1 ho1;go_wp2_with fail
 have hd:=fun hT=>ZhJ (c:=1) (by decide) (A:=A1) (cp:=c1) (q:=1) ⟨#[193,194]⟩ H14.out (by decide) h12 _ HR1.out hT;rw [show(ByteArray.mk #[193,194]).data.toList=[193,194] from rfl,aw_dec] at hd;refine(hd G1.out.2).mono ?_;rintro e w2 ⟨rfl,hb2⟩;clear hd;have G2:=stw (stw G1 hb2) (al (.cells #[.int .i64 0,.int .i64 0] 45));have F4:=Lib.hid (heap_alloc_new w2 (.cells #[.int .i64 0,.int .i64 0] 45));clear hb2;go_wp2_with fail
 refine(ho0 _ G2.out.2).mono ?_;rintro e w3 ⟨A3,c3,rs3,rfl,h31,h32,h33,h34,hb3⟩;have G3:=stw (stw G2 hb3) (al (.cells #[.slice A3 rs3.length c3,.int .i64 0] 207));have F4b:=Lib.hid (Zq (Zq F4.out hb3) (al (.cells #[.slice A3 rs3.length c3,.int .i64 0] 207)));have HR3:=Lib.hid (tb_al h33 (.cells #[.slice A3 rs3.length c3,.int .i64 0] 207));have H34:=Lib.hid h34;clear h33 h34 hb3 ho0 F4;go_wp2_with fail
 have hd:=fun hT=>ZlV (c:=0) (by decide) (A:=A3) (cp:=c3) (q:=0) ⟨#[208,132]⟩ [1028] ⟨rfl,by decide⟩ H34.out (by decide) h32 _ HR3.out hT;rw [aw_enc] at hd;refine(hd G3.out.2).mono ?_;rintro e w4 ⟨rfl,hb4⟩;clear hd;have G4:=stw (stw G3 hb4) (al (.cells #[.int .i64 6,.int .i64 0] 45));have F4c:=Lib.hid (Zq (Zq F4b.out hb4) (al (.cells #[.int .i64 6,.int .i64 0] 45)));have F8:=Lib.hid (heap_alloc_new w4 (.cells #[.int .i64 6,.int .i64 0] 45));clear hb4 F4b;go_wp2_with fail
 refine(ZlB _ G4.out.2).mono ?_;rintro e w5 ⟨rfl,hb5⟩;have G5:=stw G4 hb5;have F4d:=Lib.hid (Zq F4c.out hb5);have F8b:=Lib.hid (Zq F8.out hb5);clear hb5 F4c F8;go_wp2_with fail
 refine(ZlA _ G5.out.2).mono ?_;rintro e w6 ⟨rfl,hb6⟩;have G6:=stw G5 hb6;have F4e:=Lib.hid (Zq F4d.out hb6);have F8c:=Lib.hid (Zq F8b.out hb6);obtain⟨p0,p1⟩:=two_c F4e.out;clear hb6 F4d F8b;go_wp2_with fail
 refine(ZcU 0 0 _).mono ?_;rintro e w7 ⟨rfl,hb7⟩;have G7:=stw G6 hb7;obtain⟨q0,q1⟩:=two_c (Zq F8c.out hb7);clear hb7 p0 p1;go_wp2_with fail
 exact HP.out _ G7.out.1
end Go.Proofs.YtnbkfkbcpfkddaaGreatDoor
