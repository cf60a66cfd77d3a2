/- Lemmas for a statement on the tops; conditions: as each says. -/
import Derived.Lib.ValidU
import Derived.Deep.QuietTactic
import Derived.BigQuiet
import Derived.Shelf.SlGeneric
import Derived.Shelf.SlSortCmp.WholeK
import Derived.Shelf.SlicesE.Clone
import Derived.Shelf.SlicesE.Index
import Derived.Ground.SlsfProg
import Derived.Ground.SlgnProg
import Derived.Test.YtecandjkbbpooaaGreatDoorM2
set_option linter.unusedVariables false
set_option linter.unusedSimpArgs false
set_option maxRecDepth 100000
set_option maxHeartbeats 2000000
namespace Go.Proofs.YtecandjkbbpooaaGreatDoor
open Go Go.RowKit
theorem ZhB (l:List UInt8):Lib.decodeL l=ZA l:=by
 unfold Lib.decodeL;rw [ZhC];rfl
theorem Zm5:∀(ps:List Int) (n:Nat),(∀p∈ps,Zv p=true)→Lib.validGoD n (Zc ps)=true
 |_,0,_=>rfl
 |[],n+1,_=>by simp [Lib.validGoD,Zca]
 |p::ps,n+1,h=>by
  have hs:=h p (List.mem_cons_self ..);have hd:ZA (Zc (p::ps))=(p.toNat,(Lib.encodeRune p).length):=by rw [Za2];exact Zen hs _
  have he:=Zh6 hs (Zc ps);rw [←Za2] at he;unfold Lib.validGoD;rw [ZhB,hd] at*;split
  · rfl
  · rw [if_neg]
    · have:(Zc (p::ps)).drop (Lib.encodeRune p).length=Zc ps:=by rw [Za2,List.drop_left]
      simp only;rw [this];exact Zm5 ps n fun q hq=>h q (List.mem_cons_of_mem _ hq)
    · rintro⟨h1,h2⟩;exact he ⟨h1,by simp only at h2⊢;omega⟩
theorem Zqf (n b0 b1 b2 b3:Nat):1≤(Lib.decodeN n b0 b1 b2 b3).2:=by
 unfold Lib.decodeN
 repeat' split
 all_goals simp
theorem ZqA {l:List UInt8} (h:ZbC (ZA l)):(ZA l).1=65533∧(ZA l).2=1:=by
 have:=Zqf l.length (l.getD 0 0).toNat (l.getD 1 0).toNat (l.getD 2 0).toNat (l.getD 3 0).toNat;have h2:=h.2;unfold ZA at h2⊢;exact⟨h.1,by omega⟩
theorem Zm4:∀(ps:List Int) (r:List UInt8) (n:Nat),ps.length<n→(∀p∈ps,Zv p=true)→r≠[]→ZbC (ZA r)→Lib.validGoD n (Zc ps++r)=false
 |_,_,0,hn,_,_,_=>by omega
 |[],r,n+1,_,_,hr,he=>by
  unfold Lib.validGoD;rw [Zca,List.nil_append,if_neg hr,ZhB,if_pos (ZqA he)]
 |p::ps,r,n+1,hn,h,hr,he=>by
  have hs:=h p (List.mem_cons_self ..);have hd:ZA (Zc (p::ps)++r)=(p.toNat,(Lib.encodeRune p).length):=by rw [Za2,List.append_assoc];exact Zen hs _
  have he1:=Zh6 hs (Zc ps++r);rw [←List.append_assoc,←Za2] at he1;unfold Lib.validGoD;rw [ZhB,hd] at*;rw [if_neg (by intro h0;exact hr (List.append_eq_nil_iff.1 h0).2),if_neg]
  · have:(Zc (p::ps)++r).drop (Lib.encodeRune p).length=Zc ps++r:=by rw [Za2,List.append_assoc,List.drop_left]
    simp only;rw [this];exact Zm4 ps r n (by simp at hn;omega) (fun q hq=>h q (List.mem_cons_of_mem _ hq)) hr he
  · rintro⟨h1,h2⟩;exact he1 ⟨h1,by simp only at h2⊢;omega⟩
theorem Good.valid {s:ByteArray} {ps:List Int} (h:Good s ps):Lib.validD s.data.toList=true:=by
 unfold Lib.validD;rw [h.1];exact Zm5 ps _ h.2
theorem Za3.valid {s:ByteArray} {n:Nat} (h:Za3 s n):Lib.validD s.data.toList=false:=by
 obtain⟨ps,r,h1,h2,_,h4,h5⟩:=h;unfold Lib.validD;rw [h1];refine Zm4 ps r _ ?_ h2 h4 h5;have:=(ZcX ps).1;have:0<r.length:=List.length_pos_iff.2 h4;rw [List.length_append];omega
theorem Zpe (s:ByteArray)(ps:List Int)(hg:Good s ps)(hs:s.size≤140737488355328)(w:World)(hT:Zk w):
 Calls Tryz.prog 34 #[.string s] w fun e w'=>e= .returned (.bool true)∧Below w.heap.size w w':=by
 have h:=ZjK s hs w hT;rw [hg.valid] at h;exact h
theorem Zpd (s:ByteArray)(n:Nat)(hg:Za3 s n)(hs:s.size≤140737488355328)(w:World)(hT:Zk w):
 Calls Tryz.prog 34 #[.string s] w fun e w'=>e= .returned (.bool false)∧Below w.heap.size w w':=by
 have h:=ZjK s hs w hT;rw [hg.valid] at h;exact h
theorem ZrV (w:World)(e:TypeId)(z:Int)(k:IntKind):ZaP (w.alloc (.cells #[.int k z] e)) (w.heap.size+1) k (some ⟨w.heap.size,0,none⟩) [z]:=ZrU w e [z] k
theorem Zo8 (p:Int)(hp:Zv p=true)(c:Nat)(w:World):
 Calls Tryz.prog 275 #[.slice (some ⟨w.heap.size,0,none⟩) 1 c] (w.alloc (.cells #[.int .i32 p] 21)) fun e w'=>e= .returned (.tuple #[.string ⟨(Lib.encodeRune p).toArray⟩,.bool true])∧Below (w.alloc (.cells #[.int .i32 p] 21)).heap.size (w.alloc (.cells #[.int .i32 p] 21)) w':=by
 have h:=Zo7 (some ⟨w.heap.size,0,none⟩) c [p] _ (ZrV w 21 p .i32) (by simp) (by simpa using hp) (by simp);have e:Zc [p]=Lib.encodeRune p:=by simp [Zc]
 rw [e] at h;exact h
theorem Zpx:Za3 ⟨#[97,195,97]⟩ 1:=
 ⟨[97],[195,97],rfl,by decide,rfl,by decide,by decide⟩
theorem Znl (w:World)(hT:Zk w):
 Calls Tryz.prog 214 #[] w fun e w'=>e= .returned (.bool true)∧Below w.heap.size w w':=by
 go_enter Tryz.func214,Tryz.ntmps214
 go_wp2_with (first|(go_at_call 275;refine(Zo8 233 (by decide) _ _).mono ?_;rintro e w1 ⟨rfl,hb1⟩;have hB1:=Ze hb1;have hT1:=Zaf hT hB1 (Nat.le_refl _);have hz1:=hB1.size)|(go_at_call 276;refine(Zow _ 1 Zpx (by decide) _ hT1).mono ?_;rintro e w2 ⟨rfl,hb2⟩;have hB2:=hB1.trans (hb2.mono hz1)))
 go_ret
 exact⟨rfl,hB2.alloc hB2.size _⟩
end Go.Proofs.YtecandjkbbpooaaGreatDoor
namespace Go.Proofs.YtecandjkbbpooaaGreatDoor
open Go
def B (l:List UInt8):ByteArray:=⟨l.toArray⟩
theorem ZaA (l:List UInt8):(B l).data.toList=l:=by simp [B]
theorem Zl (l:List UInt8):(B l).size=l.length:=by simp [B,ByteArray.size]
theorem Zd6 (s:ByteArray):s=B s.data.toList:=by simp [B]
theorem ZfC (l:List UInt8)(a b:Nat):(B l).extract a b=B ((l.take b).drop a):=by
 rw [Zd6 ((B l).extract a b)];congr 1
 simp [B,ByteArray.data_extract,List.extract,List.drop_take]
theorem ZcJ (l:List UInt8)(a b:Nat):(B l).extract a b=B ((l.drop a).take (b - a)):=by
 rw [ZfC,List.drop_take]
def Zku (c:UInt8):Bool:=decide (48≤c.toNat)&&decide (c.toNat≤57)
def Zct (c:UInt8):Bool:=Zku c||(decide (65≤c.toNat)&&decide (c.toNat≤90))
end Go.Proofs.YtecandjkbbpooaaGreatDoor
namespace Go.Proofs.YtecandjkbbpooaaGreatDoor
open Go Go.RowKit
structure But (C B:Nat)(w w':World):Prop where
 os:w'.os=w.os
 tape:w'.tape=w.tape
 output:w'.output=w.output
 size:w.heap.size≤w'.heap.size
 block:∀k,k<B→k≠C→w'.heap[k]? =w.heap[k]?
theorem But.of {C B:Nat} {w w':World} (h:Below B w w'):But C B w w':=⟨h.os,h.tape,h.output,h.size,fun k hk _=>h.block k hk⟩
theorem But.refl (C B:Nat)(w:World):But C B w w:= .of (Below.refl B w)
theorem But.trans {C B:Nat} {a b c:World} (h:But C B a b)(k:But C B b c):But C B a c:=
 ⟨k.os.trans h.os,k.tape.trans h.tape,k.output.trans h.output,Nat.le_trans h.size k.size,fun i hi hc=>(k.block i hi hc).trans (h.block i hi hc)⟩
theorem But.mono {C B B':Nat} {w w':World} (h:But C B w w')(hB:B'≤B):But C B' w w':=⟨h.os,h.tape,h.output,h.size,fun k hk=>h.block k (Nat.lt_of_lt_of_le hk hB)⟩
theorem But.alloc {C B:Nat} {a w:World} (h:But C B a w)(hB:B≤w.heap.size)(o:Obj):But C B a (w.alloc o):=h.trans (.of ((Below.refl B w).alloc hB o))
theorem But.setCell {C B:Nat} {a w:World} (h:But C B a w){p:Addr} (hp:B≤p.block∨p.block=C)(u:Value):But C B a (w.setCell p u):=
 h.trans ⟨rfl,rfl,rfl,by simp [World.setCell],fun k hk hc=>Below.heap_setCell _ _ _ _ (by rcases hp with hp|hp<;>omega)⟩
theorem But.below {C B:Nat} {w w':World} (h:But C B w w')(hB:B≤C):Below B w w':=⟨h.os,h.tape,h.output,h.size,fun k hk=>h.block k hk (by omega)⟩
theorem But.cell {C B:Nat} {w w':World} (h:But C B w w'){p:Addr} (hp:p.block<B)(hc:p.block≠C):w'.cell? p=w.cell? p:=World.cell?_of_block (w:=w) (h.block p.block hp hc)
theorem Zhq {C:Nat} {w w1:World} {o:Obj} (h:But C (w.alloc o).heap.size (w.alloc o) w1):But C w.heap.size w w1:=
 ((But.refl C w.heap.size w).alloc (Nat.le_refl _) o).trans (h.mono (by simp))
theorem Zdn {C:Nat} {w w1:World} {base:Nat} {e:TypeId} {size:Nat} {v:Value} {n:Nat} {xs:List Value} (h:w.ownsRow base e size v n xs)(hb:But C w.heap.size w w1)(hC:C<base):w1.ownsRow base e size v n xs:=
 h.kept (row:=some C) ⟨hb.os,hb.tape,hb.output,hb.size,fun k hk hc=>hb.block k hk (fun e=>hc (by rw [e]))⟩ (.inr fun e=>by
  have:=(h.lt C e).1;omega)
theorem ZpE {C:Nat} {w w':World} (hb:But C w.heap.size w w'):w.grownBy w' (some C):=⟨hb.os,hb.tape,hb.output,hb.size,fun k hk hc=>hb.block k hk (fun e=>hc (by rw [e]))⟩
theorem bx3' {w wr:World} {T:TypeId} {a b c:Value} (hb:Below (w.alloc (.cells #[a,b,c] T)).heap.size (w.alloc (.cells #[a,b,c] T)) wr):
 wr.cell? ⟨w.heap.size,0,none⟩=some a∧wr.cell? ⟨w.heap.size,1,none⟩=some b∧wr.cell? ⟨w.heap.size,2,none⟩=some c∧wr.frozen? ⟨w.heap.size,0,none⟩=false∧wr.frozen? ⟨w.heap.size,1,none⟩=false∧wr.frozen? ⟨w.heap.size,2,none⟩=false∧w.heap.size<wr.heap.size:=by
 have h1:=hb.size;simp only [World.size_alloc] at h1;have hl:w.heap.size<(w.alloc (.cells #[a,b,c] T)).heap.size:=by simp
 have e:=heap_alloc_new w (.cells #[a,b,c] T);refine⟨?_,?_,?_,?_,?_,?_,by omega⟩
 · rw [hb.cell (p:=⟨w.heap.size,0,none⟩) hl,cell_of_row _ w.heap.size 0 _ T (0,0) e];rfl
 · rw [hb.cell (p:=⟨w.heap.size,1,none⟩) hl,cell_of_row _ w.heap.size 1 _ T (0,0) e];rfl
 · rw [hb.cell (p:=⟨w.heap.size,2,none⟩) hl,cell_of_row _ w.heap.size 2 _ T (0,0) e];rfl
 · rw [hb.frozen (p:=⟨w.heap.size,0,none⟩) hl,frozen_of_row _ w.heap.size 0 _ T e]
 · rw [hb.frozen (p:=⟨w.heap.size,1,none⟩) hl,frozen_of_row _ w.heap.size 1 _ T e]
 · rw [hb.frozen (p:=⟨w.heap.size,2,none⟩) hl,frozen_of_row _ w.heap.size 2 _ T e]
end Go.Proofs.YtecandjkbbpooaaGreatDoor
namespace Go.Proofs
open Go.Shelf
def Tryz.laysSort_ren:Go.Shelf.Ren:=⟨fun|6=>340|15=>363|14=>362|28=>386|29=>387|20=>378|21=>379|22=>380|23=>381|24=>382|25=>383|26=>384|27=>385|46=>389|47=>390|48=>391|49=>392|50=>393|57=>394|n=>n,fun|22=>188|24=>310|25=>363|3=>3|39=>152|0=>0|53=>41|55=>40|4=>4|46=>386|45=>385|50=>246|5=>5|9=>9|66=>394|70=>398|76=>400|77=>224|n=>n,fun|n=>n⟩
theorem Tryz.laysSort:Go.Proofs.SlLaysF0.n6 Tryz.prog Tryz.laysSort_ren:={
 mixed:=by kernel_rfl
 f6:=⟨Tryz.f340.name,by decide,Tryz.func340.trans (congrArg some (by kernel_rfl))⟩
 f14:=⟨Tryz.f362.name,by decide,Tryz.func362.trans (congrArg some (by kernel_rfl))⟩
 f15:=Tryz.func363.trans (congrArg some (by kernel_rfl))
 f20:=⟨Tryz.f378.name,by decide,Tryz.func378.trans (congrArg some (by kernel_rfl))⟩
 f21:=⟨Tryz.f379.name,by decide,Tryz.func379.trans (congrArg some (by kernel_rfl))⟩
 f22:=⟨Tryz.f380.name,by decide,Tryz.func380.trans (congrArg some (by kernel_rfl))⟩
 f23:=⟨Tryz.f381.name,by decide,Tryz.func381.trans (congrArg some (by kernel_rfl))⟩
 f24:=⟨Tryz.f382.name,by decide,Tryz.func382.trans (congrArg some (by kernel_rfl))⟩
 f25:=⟨Tryz.f383.name,by decide,Tryz.func383.trans (congrArg some (by kernel_rfl))⟩
 f26:=⟨Tryz.f384.name,by decide,Tryz.func384.trans (congrArg some (by kernel_rfl))⟩
 f27:=⟨Tryz.f385.name,by decide,Tryz.func385.trans (congrArg some (by kernel_rfl))⟩
 f28:=Tryz.func386.trans (congrArg some (by kernel_rfl))
 f29:=Tryz.func387.trans (congrArg some (by kernel_rfl))
 f46:=⟨Tryz.f389.name,by decide,Tryz.func389.trans (congrArg some (by kernel_rfl))⟩
 f47:=Tryz.func390.trans (congrArg some (by kernel_rfl))
 f48:=Tryz.func391.trans (congrArg some (by kernel_rfl))
 f49:=⟨Tryz.f392.name,by decide,Tryz.func392.trans (congrArg some (by kernel_rfl))⟩
 f50:=⟨Tryz.f393.name,by decide,Tryz.func393.trans (congrArg some (by kernel_rfl))⟩
 f57:=⟨Tryz.f394.name,by decide,Tryz.func394.trans (congrArg some (by kernel_rfl))⟩
 t0:=Tryz.underlying0
 a0:=Tryz.isAgg0
 z0:=Tryz.sizeOf0
 v0:=Tryz.zeroValue0
 t3:=Tryz.underlying3
 a3:=Tryz.isAgg3
 z3:=Tryz.sizeOf3
 v3:=Tryz.zeroValue3
 t4:=Tryz.underlying4
 a4:=Tryz.isAgg4
 z4:=Tryz.sizeOf4
 v4:=Tryz.zeroValue4
 t5:=Tryz.underlying5
 a5:=Tryz.isAgg5
 z5:=Tryz.sizeOf5
 v5:=Tryz.zeroValue5
 t9:=Tryz.underlying9
 a9:=Tryz.isAgg9
 z9:=Tryz.sizeOf9
 v9:=Tryz.zeroValue9
 t22:=Tryz.underlying188
 a22:=Tryz.isAgg188
 z22:=Tryz.sizeOf188
 v22:=Tryz.zeroValue188
 t25:=Tryz.underlying363
 a25:=Tryz.isAgg363
 z25:=Tryz.sizeOf363
 v25:=Tryz.zeroValue363
 t39:=Tryz.underlying152
 a39:=Tryz.isAgg152
 z39:=Tryz.sizeOf152
 v39:=Tryz.zeroValue152
 t45:=Tryz.underlying385
 a45:=Tryz.isAgg385
 z45:=Tryz.sizeOf385
 v45:=Tryz.zeroValue385
 t46:=Tryz.underlying386
 a46:=Tryz.isAgg386
 z46:=Tryz.sizeOf386
 v46:=Tryz.zeroValue386
 t50:=Tryz.underlying246
 a50:=Tryz.isAgg246
 z50:=Tryz.sizeOf246
 v50:=Tryz.zeroValue246
 t53:=Tryz.underlying41
 a53:=Tryz.isAgg41
 z53:=Tryz.sizeOf41
 v53:=Tryz.zeroValue41
 t55:=Tryz.underlying40
 a55:=Tryz.isAgg40
 z55:=Tryz.sizeOf40
 v55:=Tryz.zeroValue40
 t66:=Tryz.underlying394
 a66:=Tryz.isAgg394
 z66:=Tryz.sizeOf394
 v66:=Tryz.zeroValue394
 t70:=Tryz.underlying398
 a70:=Tryz.isAgg398
 z70:=Tryz.sizeOf398
 v70:=Tryz.zeroValue398
 t76:=Tryz.underlying400
 a76:=Tryz.isAgg400
 z76:=Tryz.sizeOf400
 v76:=Tryz.zeroValue400
 t77:=Tryz.underlying224
 a77:=Tryz.isAgg224
 z77:=Tryz.sizeOf224
 v77:=Tryz.zeroValue224}
def Tryz.laysIdx_ren:Go.Shelf.Ren:=⟨fun|29=>388|n=>n,fun|22=>308|23=>21|3=>3|0=>0|4=>4|n=>n,fun|n=>n⟩
theorem Tryz.laysIdx:Go.Proofs.SlLaysE.n29 Tryz.prog Tryz.laysIdx_ren:={
 mixed:=by kernel_rfl
 f29:=⟨Tryz.f388.name,by decide,Tryz.func388.trans (congrArg some (by kernel_rfl))⟩
 t0:=Tryz.underlying0
 a0:=Tryz.isAgg0
 z0:=Tryz.sizeOf0
 v0:=Tryz.zeroValue0
 t3:=Tryz.underlying3
 a3:=Tryz.isAgg3
 z3:=Tryz.sizeOf3
 v3:=Tryz.zeroValue3
 t4:=Tryz.underlying4
 a4:=Tryz.isAgg4
 z4:=Tryz.sizeOf4
 v4:=Tryz.zeroValue4
 t22:=Tryz.underlying308
 a22:=Tryz.isAgg308
 z22:=Tryz.sizeOf308
 v22:=Tryz.zeroValue308
 a23:=Tryz.isAgg21
 z23:=Tryz.sizeOf21}
def Tryz.laysClone_ren:Go.Shelf.Ren:=⟨fun|41=>313|n=>n,fun|22=>188|23=>310|4=>4|n=>n,fun|n=>n⟩
theorem Tryz.laysClone:Go.Proofs.SlLaysE0.n41 Tryz.prog Tryz.laysClone_ren:={
 mixed:=by kernel_rfl
 f41:=⟨Tryz.f313.name,by decide,Tryz.func313.trans (congrArg some (by kernel_rfl))⟩
 t4:=Tryz.underlying4
 a4:=Tryz.isAgg4
 z4:=Tryz.sizeOf4
 v4:=Tryz.zeroValue4
 t22:=Tryz.underlying188
 a22:=Tryz.isAgg188
 z22:=Tryz.sizeOf188
 v22:=Tryz.zeroValue188}
end Go.Proofs
namespace Go.Proofs.YtecandjkbbpooaaGreatDoor
open Go Go.RowKit
theorem ZhV:∀xs:List (List UInt8),Lib.join xs []=xs.flatten
 |[]=>by simp [Lib.join]
 |[x]=>by simp [Lib.join]
 |x::y::xs=>by
  have:=ZhV (y::xs);simp [Lib.join] at this⊢;exact this
theorem Zok (bk c:Nat)(xs:List (List UInt8))(w:World)(hcells:∀(j:Nat) x,xs[j]? =some x→w.cell? ⟨bk,j,none⟩=some (.string (B x)))(h0:xs≠[])(hcap:xs.length≤c)(hl:xs.flatten.length≤35184372089000)(hn:xs.length≤35184372089000):
 Calls Tryz.prog 27 #[.slice (some ⟨bk,0,none⟩) xs.length c] w fun e w'=>e= .returned (.string (B xs.flatten))∧Below w.heap.size w w':=by
 have hbk:bk<w.heap.size:=by
  obtain⟨x,l,rfl⟩:=List.exists_cons_of_ne_nil h0;exact World.block_lt_of_cell? _ _ (hcells 0 x rfl)
 have hm:(xs.map B).map (·.data.toList)=xs:=by
  rw [List.map_map]
  conv=>rhs;rw [←List.map_id xs]
  exact List.map_congr_left fun x _=>ZaA x
 have hj:Calls Tryz.prog 76 #[.slice (some ⟨bk,0,none⟩) xs.length c,.string ⟨#[]⟩] w fun e w'=>e= .returned (.string (B xs.flatten))∧Below w.heap.size w w':=by
  have hq:=Tryz.strings_Join bk 0 c (xs.map B) ⟨#[]⟩ w (by
   intro j x hx;rw [List.getElem?_map] at hx;obtain⟨y,hy,rfl⟩:=Option.map_eq_some_iff.1 hx;rw [Nat.zero_add];exact hcells j y hy) hbk (by rw [List.length_map];omega) (by rw [List.length_map];exact hcap) (by
    rw [hm];show(Lib.join xs []).length≤_
    rw [ZhV];omega)
  rw [List.length_map,hm] at hq;have e:Lib.join xs (⟨#[]⟩:ByteArray).data.toList=xs.flatten:=ZhV xs;rw [e] at hq;exact hq
 go_enter Tryz.func27,Tryz.ntmps27
 go_wp2_with (go_at_call 76;refine hj.mono ?_;rintro e w1 ⟨rfl,hb1⟩)
 go_ret
 exact⟨rfl,hb1⟩
end Go.Proofs.YtecandjkbbpooaaGreatDoor
