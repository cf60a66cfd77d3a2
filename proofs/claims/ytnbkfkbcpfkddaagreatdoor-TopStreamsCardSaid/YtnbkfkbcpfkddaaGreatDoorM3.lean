/- Lemmas for a statement on the tops; conditions: as each says. -/
import Derived.WalkSpells
import Derived.Outline
import Derived.Deep.DeepFit
import Derived.Deep.QuietTactic
import Derived.BigQuiet
import Derived.Shelf.SlGeneric
import Derived.Shelf.SlSortCmp.WholeK
import Derived.Shelf.SlicesE.Clone
import Derived.Shelf.SlicesE.Index
import Derived.Ground.SlsfProg
import Derived.Ground.SlgnProg
import Derived.Test.YtnbkfkbcpfkddaaGreatDoorRows
import Derived.Test.YtnbkfkbcpfkddaaGreatDoorM1
set_option linter.unusedVariables false
set_option linter.unusedSimpArgs false
set_option maxRecDepth 100000
set_option maxHeartbeats 2000000
namespace Go.Proofs.YtnbkfkbcpfkddaaGreatDoor
open Go
def B (l:List UInt8):ByteArray:=⟨l.toArray⟩
theorem Zbw (l:List UInt8):(B l).data.toList=l:=by simp [B]
theorem Zm (l:List UInt8):(B l).size=l.length:=by simp [B,ByteArray.size]
theorem Zca (s:ByteArray):s=B s.data.toList:=by simp [B]
theorem B_ext (l:List UInt8)(a b:Nat):(B l).extract a b=B ((l.take b).drop a):=by
 rw [Zca ((B l).extract a b)];congr 1
 simp [B,ByteArray.data_extract,List.extract,List.drop_take]
theorem Zbx (l:List UInt8)(a b:Nat):(B l).extract a b=B ((l.drop a).take (b - a)):=by
 rw [B_ext,List.drop_take]
end Go.Proofs.YtnbkfkbcpfkddaaGreatDoor
namespace Go.Proofs.YtnbkfkbcpfkddaaGreatDoor
open Go Go.RowKit
structure But (C B:Nat)(w w':World):Prop where
 os:w'.os=w.os
 tape:w'.tape=w.tape
 output:w'.output=w.output
 size:w.heap.size≤w'.heap.size
 block:∀k,k<B→k≠C→w'.heap[k]? =w.heap[k]?
theorem But.of {C B:Nat} {w w':World} (h:Below B w w'):But C B w w':=⟨h.os,h.tape,h.output,h.size,fun k hk _=>h.block k hk⟩
theorem But.refl (C B:Nat)(w:World):But C B w w:= .of (Below.refl B w)
theorem But.trans {C B:Nat} {a b c:World} (h:But C B a b)(k:But C B b c):But C B a c:=
 ⟨k.os.trans h.os,k.tape.trans h.tape,k.output.trans h.output,Nat.le_trans h.size k.size,fun i hi hc=>(k.block i hi hc).trans (h.block i hi hc)⟩
theorem But.mono {C B B':Nat} {w w':World} (h:But C B w w')(hB:B'≤B):But C B' w w':=⟨h.os,h.tape,h.output,h.size,fun k hk=>h.block k (Nat.lt_of_lt_of_le hk hB)⟩
theorem But.alloc {C B:Nat} {a w:World} (h:But C B a w)(hB:B≤w.heap.size)(o:Obj):But C B a (w.alloc o):=h.trans (.of ((Below.refl B w).alloc hB o))
theorem But.setCell {C B:Nat} {a w:World} (h:But C B a w){p:Addr} (hp:B≤p.block∨p.block=C)(u:Value):But C B a (w.setCell p u):=
 h.trans ⟨rfl,rfl,rfl,by simp [World.setCell],fun k hk hc=>Below.heap_setCell _ _ _ _ (by rcases hp with hp|hp<;>omega)⟩
theorem But.below {C B:Nat} {w w':World} (h:But C B w w')(hB:B≤C):Below B w w':=⟨h.os,h.tape,h.output,h.size,fun k hk=>h.block k hk (by omega)⟩
theorem But.cell {C B:Nat} {w w':World} (h:But C B w w'){p:Addr} (hp:p.block<B)(hc:p.block≠C):w'.cell? p=w.cell? p:=World.cell?_of_block (w:=w) (h.block p.block hp hc)
theorem Zb0 {C:Nat} {w w1:World} {base:Nat} {e:TypeId} {size:Nat} {v:Value} {n:Nat} {xs:List Value} (h:w.ownsRow base e size v n xs)(hb:But C w.heap.size w w1)(hC:C<base):w1.ownsRow base e size v n xs:=
 h.kept (row:=some C) ⟨hb.os,hb.tape,hb.output,hb.size,fun k hk hc=>hb.block k hk (fun e=>hc (by rw [e]))⟩ (.inr fun e=>by
  have:=(h.lt C e).1;omega)
end Go.Proofs.YtnbkfkbcpfkddaaGreatDoor
namespace Go.Proofs
open Go.Shelf
def Tryz.laysSort_ren:Go.Shelf.Ren:=⟨fun|6=>344|15=>366|14=>365|28=>389|29=>390|20=>381|21=>382|22=>383|23=>384|24=>385|25=>386|26=>387|27=>388|46=>395|47=>396|48=>397|49=>398|50=>399|57=>400|n=>n,fun|22=>203|24=>322|25=>376|3=>3|39=>197|0=>0|53=>23|55=>22|4=>4|46=>400|45=>399|50=>248|5=>5|9=>9|66=>408|70=>412|76=>414|77=>225|n=>n,fun|n=>n⟩
theorem Tryz.laysSort:Go.Proofs.SlLaysF0.n6 Tryz.prog Tryz.laysSort_ren:={
 mixed:=by kernel_rfl
 f6:=⟨Tryz.f344.name,by decide,Tryz.func344.trans (congrArg some (by kernel_rfl))⟩
 f14:=⟨Tryz.f365.name,by decide,Tryz.func365.trans (congrArg some (by kernel_rfl))⟩
 f15:=Tryz.func366.trans (congrArg some (by kernel_rfl))
 f20:=⟨Tryz.f381.name,by decide,Tryz.func381.trans (congrArg some (by kernel_rfl))⟩
 f21:=⟨Tryz.f382.name,by decide,Tryz.func382.trans (congrArg some (by kernel_rfl))⟩
 f22:=⟨Tryz.f383.name,by decide,Tryz.func383.trans (congrArg some (by kernel_rfl))⟩
 f23:=⟨Tryz.f384.name,by decide,Tryz.func384.trans (congrArg some (by kernel_rfl))⟩
 f24:=⟨Tryz.f385.name,by decide,Tryz.func385.trans (congrArg some (by kernel_rfl))⟩
 f25:=⟨Tryz.f386.name,by decide,Tryz.func386.trans (congrArg some (by kernel_rfl))⟩
 f26:=⟨Tryz.f387.name,by decide,Tryz.func387.trans (congrArg some (by kernel_rfl))⟩
 f27:=⟨Tryz.f388.name,by decide,Tryz.func388.trans (congrArg some (by kernel_rfl))⟩
 f28:=Tryz.func389.trans (congrArg some (by kernel_rfl))
 f29:=Tryz.func390.trans (congrArg some (by kernel_rfl))
 f46:=⟨Tryz.f395.name,by decide,Tryz.func395.trans (congrArg some (by kernel_rfl))⟩
 f47:=Tryz.func396.trans (congrArg some (by kernel_rfl))
 f48:=Tryz.func397.trans (congrArg some (by kernel_rfl))
 f49:=⟨Tryz.f398.name,by decide,Tryz.func398.trans (congrArg some (by kernel_rfl))⟩
 f50:=⟨Tryz.f399.name,by decide,Tryz.func399.trans (congrArg some (by kernel_rfl))⟩
 f57:=⟨Tryz.f400.name,by decide,Tryz.func400.trans (congrArg some (by kernel_rfl))⟩
 t0:=Tryz.underlying0
 a0:=Tryz.isAgg0
 z0:=Tryz.sizeOf0
 v0:=Tryz.zeroValue0
 t3:=Tryz.underlying3
 a3:=Tryz.isAgg3
 z3:=Tryz.sizeOf3
 v3:=Tryz.zeroValue3
 t4:=Tryz.underlying4
 a4:=Tryz.isAgg4
 z4:=Tryz.sizeOf4
 v4:=Tryz.zeroValue4
 t5:=Tryz.underlying5
 a5:=Tryz.isAgg5
 z5:=Tryz.sizeOf5
 v5:=Tryz.zeroValue5
 t9:=Tryz.underlying9
 a9:=Tryz.isAgg9
 z9:=Tryz.sizeOf9
 v9:=Tryz.zeroValue9
 t22:=Tryz.underlying203
 a22:=Tryz.isAgg203
 z22:=Tryz.sizeOf203
 v22:=Tryz.zeroValue203
 t25:=Tryz.underlying376
 a25:=Tryz.isAgg376
 z25:=Tryz.sizeOf376
 v25:=Tryz.zeroValue376
 t39:=Tryz.underlying197
 a39:=Tryz.isAgg197
 z39:=Tryz.sizeOf197
 v39:=Tryz.zeroValue197
 t45:=Tryz.underlying399
 a45:=Tryz.isAgg399
 z45:=Tryz.sizeOf399
 v45:=Tryz.zeroValue399
 t46:=Tryz.underlying400
 a46:=Tryz.isAgg400
 z46:=Tryz.sizeOf400
 v46:=Tryz.zeroValue400
 t50:=Tryz.underlying248
 a50:=Tryz.isAgg248
 z50:=Tryz.sizeOf248
 v50:=Tryz.zeroValue248
 t53:=Tryz.underlying23
 a53:=Tryz.isAgg23
 z53:=Tryz.sizeOf23
 v53:=Tryz.zeroValue23
 t55:=Tryz.underlying22
 a55:=Tryz.isAgg22
 z55:=Tryz.sizeOf22
 v55:=Tryz.zeroValue22
 t66:=Tryz.underlying408
 a66:=Tryz.isAgg408
 z66:=Tryz.sizeOf408
 v66:=Tryz.zeroValue408
 t70:=Tryz.underlying412
 a70:=Tryz.isAgg412
 z70:=Tryz.sizeOf412
 v70:=Tryz.zeroValue412
 t76:=Tryz.underlying414
 a76:=Tryz.isAgg414
 z76:=Tryz.sizeOf414
 v76:=Tryz.zeroValue414
 t77:=Tryz.underlying225
 a77:=Tryz.isAgg225
 z77:=Tryz.sizeOf225
 v77:=Tryz.zeroValue225}
def Tryz.laysIdx_ren:Go.Shelf.Ren:=⟨fun|29=>394|n=>n,fun|22=>320|23=>21|3=>3|0=>0|4=>4|n=>n,fun|n=>n⟩
theorem Tryz.laysIdx:Go.Proofs.SlLaysE.n29 Tryz.prog Tryz.laysIdx_ren:={
 mixed:=by kernel_rfl
 f29:=⟨Tryz.f394.name,by decide,Tryz.func394.trans (congrArg some (by kernel_rfl))⟩
 t0:=Tryz.underlying0
 a0:=Tryz.isAgg0
 z0:=Tryz.sizeOf0
 v0:=Tryz.zeroValue0
 t3:=Tryz.underlying3
 a3:=Tryz.isAgg3
 z3:=Tryz.sizeOf3
 v3:=Tryz.zeroValue3
 t4:=Tryz.underlying4
 a4:=Tryz.isAgg4
 z4:=Tryz.sizeOf4
 v4:=Tryz.zeroValue4
 t22:=Tryz.underlying320
 a22:=Tryz.isAgg320
 z22:=Tryz.sizeOf320
 v22:=Tryz.zeroValue320
 a23:=Tryz.isAgg21
 z23:=Tryz.sizeOf21}
def Tryz.laysClone_ren:Go.Shelf.Ren:=⟨fun|41=>311|n=>n,fun|22=>203|23=>322|4=>4|n=>n,fun|n=>n⟩
theorem Tryz.laysClone:Go.Proofs.SlLaysE0.n41 Tryz.prog Tryz.laysClone_ren:={
 mixed:=by kernel_rfl
 f41:=⟨Tryz.f311.name,by decide,Tryz.func311.trans (congrArg some (by kernel_rfl))⟩
 t4:=Tryz.underlying4
 a4:=Tryz.isAgg4
 z4:=Tryz.sizeOf4
 v4:=Tryz.zeroValue4
 t22:=Tryz.underlying203
 a22:=Tryz.isAgg203
 z22:=Tryz.sizeOf203
 v22:=Tryz.zeroValue203}
end Go.Proofs
namespace Go.Proofs.YtnbkfkbcpfkddaaGreatDoor
open Go Go.RowKit
theorem ZgA:∀xs:List (List UInt8),Lib.join xs []=xs.flatten
 |[]=>by simp [Lib.join]
 |[x]=>by simp [Lib.join]
 |x::y::xs=>by
  have:=ZgA (y::xs);simp [Lib.join] at this⊢;exact this
theorem Zek (bk c:Nat)(xs:List (List UInt8))(w:World)(hcells:∀(j:Nat) x,xs[j]? =some x→w.cell? ⟨bk,j,none⟩=some (.string (B x)))(h0:xs≠[])(hcap:xs.length≤c)(hl:xs.flatten.length≤35184372089000)(hn:xs.length≤35184372089000):
 Calls Tryz.prog 19 #[.slice (some ⟨bk,0,none⟩) xs.length c] w fun e w'=>e= .returned (.string (B xs.flatten))∧Below w.heap.size w w':=by
 have hbk:bk<w.heap.size:=by
  obtain⟨x,l,rfl⟩:=List.exists_cons_of_ne_nil h0;exact World.block_lt_of_cell? _ _ (hcells 0 x rfl)
 have hm:(xs.map B).map (·.data.toList)=xs:=by
  rw [List.map_map]
  conv=>rhs;rw [←List.map_id xs]
  exact List.map_congr_left fun x _=>Zbw x
 have hj:Calls Tryz.prog 37 #[.slice (some ⟨bk,0,none⟩) xs.length c,.string ⟨#[]⟩] w fun e w'=>e= .returned (.string (B xs.flatten))∧Below w.heap.size w w':=by
  have hq:=Tryz.strings_Join bk 0 c (xs.map B) ⟨#[]⟩ w (by
   intro j x hx;rw [List.getElem?_map] at hx;obtain⟨y,hy,rfl⟩:=Option.map_eq_some_iff.1 hx;rw [Nat.zero_add];exact hcells j y hy) hbk (by rw [List.length_map];omega) (by rw [List.length_map];exact hcap) (by
    rw [hm];show(Lib.join xs []).length≤_
    rw [ZgA];omega)
  rw [List.length_map,hm] at hq;have e:Lib.join xs (⟨#[]⟩:ByteArray).data.toList=xs.flatten:=ZgA xs;rw [e] at hq;exact hq
 go_enter Tryz.func19,Tryz.ntmps19
 go_wp2_with (go_at_call 37;refine hj.mono ?_;rintro e w1 ⟨rfl,hb1⟩)
 go_ret
 exact⟨rfl,hb1⟩
def nMark:List UInt8:=[109,97,114,107]
end Go.Proofs.YtnbkfkbcpfkddaaGreatDoor
