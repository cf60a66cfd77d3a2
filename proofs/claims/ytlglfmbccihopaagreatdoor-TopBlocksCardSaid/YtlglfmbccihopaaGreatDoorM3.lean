/- Lemmas for a statement on the tops; conditions: as each says. -/
import Derived.Lib.ValidU
import Derived.Deep.QuietTactic
import Derived.BigQuiet
import Derived.Shelf.SlGeneric
import Derived.Shelf.SlSortCmp.WholeK
import Derived.Shelf.SlicesE.Clone
import Derived.Shelf.SlicesE.Index
import Derived.Ground.SlsfProg
import Derived.Ground.SlgnProg
import Derived.Test.YtlglfmbccihopaaGreatDoorM2
set_option linter.unusedVariables false
set_option linter.unusedSimpArgs false
set_option maxRecDepth 100000
set_option maxHeartbeats 2000000
namespace Go.Proofs.YtlglfmbccihopaaGreatDoor
open Go Go.RowKit
theorem Zhd (l:List UInt8):Lib.decodeL l=Zw l:=by
 unfold Lib.decodeL;rw [Zhe];rfl
theorem Znn:∀(ps:List Int) (n:Nat),(∀p∈ps,Zf p=true)→Lib.validGoD n (Zc ps)=true
 |_,0,_=>rfl
 |[],n+1,_=>by simp [Lib.validGoD,Zby]
 |p::ps,n+1,h=>by
  have hs:=h p (List.mem_cons_self ..);have hd:Zw (Zc (p::ps))=(p.toNat,(Lib.encodeRune p).length):=by rw [Zax];exact Zdy hs _
  have he:=ZhP hs (Zc ps);rw [←Zax] at he;unfold Lib.validGoD;rw [Zhd,hd] at*;split
  · rfl
  · rw [if_neg]
    · have:(Zc (p::ps)).drop (Lib.encodeRune p).length=Zc ps:=by rw [Zax,List.drop_left]
      simp only;rw [this];exact Znn ps n fun q hq=>h q (List.mem_cons_of_mem _ hq)
    · rintro⟨h1,h2⟩;exact he ⟨h1,by simp only at h2⊢;omega⟩
theorem Zqp (n b0 b1 b2 b3:Nat):1≤(Lib.decodeN n b0 b1 b2 b3).2:=by
 unfold Lib.decodeN
 repeat' split
 all_goals simp
theorem ZqK {l:List UInt8} (h:Za6 (Zw l)):(Zw l).1=65533∧(Zw l).2=1:=by
 have:=Zqp l.length (l.getD 0 0).toNat (l.getD 1 0).toNat (l.getD 2 0).toNat (l.getD 3 0).toNat;have h2:=h.2;unfold Zw at h2⊢;exact⟨h.1,by omega⟩
theorem Znm:∀(ps:List Int) (r:List UInt8) (n:Nat),ps.length<n→(∀p∈ps,Zf p=true)→r≠[]→Za6 (Zw r)→Lib.validGoD n (Zc ps++r)=false
 |_,_,0,hn,_,_,_=>by omega
 |[],r,n+1,_,_,hr,he=>by
  unfold Lib.validGoD;rw [Zby,List.nil_append,if_neg hr,Zhd,if_pos (ZqK he)]
 |p::ps,r,n+1,hn,h,hr,he=>by
  have hs:=h p (List.mem_cons_self ..);have hd:Zw (Zc (p::ps)++r)=(p.toNat,(Lib.encodeRune p).length):=by rw [Zax,List.append_assoc];exact Zdy hs _
  have he1:=ZhP hs (Zc ps++r);rw [←List.append_assoc,←Zax] at he1;unfold Lib.validGoD;rw [Zhd,hd] at*;rw [if_neg (by intro h0;exact hr (List.append_eq_nil_iff.1 h0).2),if_neg]
  · have:(Zc (p::ps)++r).drop (Lib.encodeRune p).length=Zc ps++r:=by rw [Zax,List.append_assoc,List.drop_left]
    simp only;rw [this];exact Znm ps r n (by simp at hn;omega) (fun q hq=>h q (List.mem_cons_of_mem _ hq)) hr he
  · rintro⟨h1,h2⟩;exact he1 ⟨h1,by simp only at h2⊢;omega⟩
theorem Good.valid {s:ByteArray} {ps:List Int} (h:Good s ps):Lib.validD s.data.toList=true:=by
 unfold Lib.validD;rw [h.1];exact Znn ps _ h.2
theorem ZaF.valid {s:ByteArray} {n:Nat} (h:ZaF s n):Lib.validD s.data.toList=false:=by
 obtain⟨ps,r,h1,h2,_,h4,h5⟩:=h;unfold Lib.validD;rw [h1];refine Znm ps r _ ?_ h2 h4 h5;have:=(ZaL ps).1;have:0<r.length:=List.length_pos_iff.2 h4;rw [List.length_append];omega
theorem Zpu (s:ByteArray)(ps:List Int)(hg:Good s ps)(hs:s.size≤140737488355328)(w:World)(hT:Zh w):
 Calls Tryz.prog 72 #[.string s] w fun e w'=>e= .returned (.bool true)∧Below w.heap.size w w':=by
 have h:=ZjC s hs w hT;rw [hg.valid] at h;exact h
theorem Zpt (s:ByteArray)(n:Nat)(hg:ZaF s n)(hs:s.size≤140737488355328)(w:World)(hT:Zh w):
 Calls Tryz.prog 72 #[.string s] w fun e w'=>e= .returned (.bool false)∧Below w.heap.size w w':=by
 have h:=ZjC s hs w hT;rw [hg.valid] at h;exact h
theorem ZlM (w:World)(e:TypeId)(z:Int)(k:IntKind):Zac (w.alloc (.cells #[.int k z] e)) (w.heap.size+1) k (some ⟨w.heap.size,0,none⟩) [z]:=ZhS w e [z] k
theorem Zfb (p:Int)(hp:Zf p=true)(c:Nat)(w:World):
 Calls Tryz.prog 260 #[.slice (some ⟨w.heap.size,0,none⟩) 1 c] (w.alloc (.cells #[.int .i32 p] 21)) fun e w'=>e= .returned (.tuple #[.string ⟨(Lib.encodeRune p).toArray⟩,.bool true])∧Below (w.alloc (.cells #[.int .i32 p] 21)).heap.size (w.alloc (.cells #[.int .i32 p] 21)) w':=by
 have h:=ZjA (some ⟨w.heap.size,0,none⟩) c [p] _ (ZlM w 21 p .i32) (by simp) (by simpa using hp) (by simp);have e:Zc [p]=Lib.encodeRune p:=by simp [Zc]
 rw [e] at h;exact h
theorem Zpn (p:Int)(hp:Zf p=false)(c:Nat)(w:World):
 Calls Tryz.prog 260 #[.slice (some ⟨w.heap.size,0,none⟩) 1 c] (w.alloc (.cells #[.int .i32 p] 21)) fun e w'=>e= .returned (.tuple #[.string ⟨#[]⟩,.bool false])∧(w.alloc (.cells #[.int .i32 p] 21))=w':=
 Zpm (some ⟨w.heap.size,0,none⟩) c [p] _ (ZlM w 21 p .i32) (by simp [hp]) (by simp)
theorem ZpM:ZaF ⟨#[97,195,97]⟩ 1:=
 ⟨[97],[195,97],rfl,by decide,rfl,by decide,by decide⟩
theorem ZnB (w:World)(hT:Zh w):
 Calls Tryz.prog 211 #[] w fun e w'=>e= .returned (.bool true)∧Below w.heap.size w w':=by
 go_enter Tryz.func211,Tryz.ntmps211
 go_wp2_with (first|(go_at_call 260;refine(Zfb 233 (by decide) _ _).mono ?_;rintro e w1 ⟨rfl,hb1⟩;have hB1:=Zd hb1;have hT1:=ZU hT hB1 (Nat.le_refl _);have hz1:=hB1.size)|(go_at_call 275;refine(ZoK _ 1 ZpM (by decide) _ hT1).mono ?_;rintro e w2 ⟨rfl,hb2⟩;have hB2:=hB1.trans (hb2.mono hz1)))
 go_ret
 exact⟨rfl,hB2.alloc hB2.size _⟩
end Go.Proofs.YtlglfmbccihopaaGreatDoor
namespace Go.Proofs.YtlglfmbccihopaaGreatDoor
open Go
def B (l:List UInt8):ByteArray:=⟨l.toArray⟩
theorem Zbn (l:List UInt8):(B l).data.toList=l:=by simp [B]
theorem Zt (l:List UInt8):(B l).size=l.length:=by simp [B,ByteArray.size]
theorem ZcY (s:ByteArray):s=B s.data.toList:=by simp [B]
theorem B_ext (l:List UInt8)(a b:Nat):(B l).extract a b=B ((l.take b).drop a):=by
 rw [ZcY ((B l).extract a b)];congr 1
 simp [B,ByteArray.data_extract,List.extract,List.drop_take]
theorem ZeV (l:List UInt8)(a b:Nat):(B l).extract a b=B ((l.drop a).take (b - a)):=by
 rw [B_ext,List.drop_take]
end Go.Proofs.YtlglfmbccihopaaGreatDoor
namespace Go.Proofs.YtlglfmbccihopaaGreatDoor
open Go Go.RowKit
structure But (C B:Nat)(w w':World):Prop where
 os:w'.os=w.os
 tape:w'.tape=w.tape
 output:w'.output=w.output
 size:w.heap.size≤w'.heap.size
 block:∀k,k<B→k≠C→w'.heap[k]? =w.heap[k]?
theorem But.of {C B:Nat} {w w':World} (h:Below B w w'):But C B w w':=⟨h.os,h.tape,h.output,h.size,fun k hk _=>h.block k hk⟩
theorem But.refl (C B:Nat)(w:World):But C B w w:= .of (Below.refl B w)
theorem But.trans {C B:Nat} {a b c:World} (h:But C B a b)(k:But C B b c):But C B a c:=
 ⟨k.os.trans h.os,k.tape.trans h.tape,k.output.trans h.output,Nat.le_trans h.size k.size,fun i hi hc=>(k.block i hi hc).trans (h.block i hi hc)⟩
theorem But.mono {C B B':Nat} {w w':World} (h:But C B w w')(hB:B'≤B):But C B' w w':=⟨h.os,h.tape,h.output,h.size,fun k hk=>h.block k (Nat.lt_of_lt_of_le hk hB)⟩
theorem But.setCell {C B:Nat} {a w:World} (h:But C B a w){p:Addr} (hp:B≤p.block∨p.block=C)(u:Value):But C B a (w.setCell p u):=
 h.trans ⟨rfl,rfl,rfl,by simp [World.setCell],fun k hk hc=>Below.heap_setCell _ _ _ _ (by rcases hp with hp|hp<;>omega)⟩
theorem But.below {C B:Nat} {w w':World} (h:But C B w w')(hB:B≤C):Below B w w':=⟨h.os,h.tape,h.output,h.size,fun k hk=>h.block k hk (by omega)⟩
theorem But.cell {C B:Nat} {w w':World} (h:But C B w w'){p:Addr} (hp:p.block<B)(hc:p.block≠C):w'.cell? p=w.cell? p:=World.cell?_of_block (w:=w) (h.block p.block hp hc)
theorem Zb8 {C:Nat} {w w1:World} {base:Nat} {e:TypeId} {size:Nat} {v:Value} {n:Nat} {xs:List Value} (h:w.ownsRow base e size v n xs)(hb:But C w.heap.size w w1)(hC:C<base):w1.ownsRow base e size v n xs:=
 h.kept (row:=some C) ⟨hb.os,hb.tape,hb.output,hb.size,fun k hk hc=>hb.block k hk (fun e=>hc (by rw [e]))⟩ (.inr fun e=>by
  have:=(h.lt C e).1;omega)
theorem ZpS {C:Nat} {w w':World} (hb:But C w.heap.size w w'):w.grownBy w' (some C):=⟨hb.os,hb.tape,hb.output,hb.size,fun k hk hc=>hb.block k hk (fun e=>hc (by rw [e]))⟩
end Go.Proofs.YtlglfmbccihopaaGreatDoor
namespace Go.Proofs
open Go.Shelf
def Tryz.laysSort_ren:Go.Shelf.Ren:=⟨fun|6=>341|15=>365|14=>364|28=>388|29=>389|20=>380|21=>381|22=>382|23=>383|24=>384|25=>385|26=>386|27=>387|46=>394|47=>395|48=>396|49=>397|50=>398|57=>399|n=>n,fun|22=>194|24=>316|25=>372|3=>3|39=>98|0=>0|53=>46|55=>45|4=>4|46=>399|45=>398|50=>243|5=>5|9=>9|66=>407|70=>411|76=>413|77=>218|n=>n,fun|n=>n⟩
theorem Tryz.laysSort:Go.Proofs.SlLaysF0.n6 Tryz.prog Tryz.laysSort_ren:={
 mixed:=by kernel_rfl
 f6:=⟨Tryz.f341.name,by decide,Tryz.func341.trans (congrArg some (by kernel_rfl))⟩
 f14:=⟨Tryz.f364.name,by decide,Tryz.func364.trans (congrArg some (by kernel_rfl))⟩
 f15:=Tryz.func365.trans (congrArg some (by kernel_rfl))
 f20:=⟨Tryz.f380.name,by decide,Tryz.func380.trans (congrArg some (by kernel_rfl))⟩
 f21:=⟨Tryz.f381.name,by decide,Tryz.func381.trans (congrArg some (by kernel_rfl))⟩
 f22:=⟨Tryz.f382.name,by decide,Tryz.func382.trans (congrArg some (by kernel_rfl))⟩
 f23:=⟨Tryz.f383.name,by decide,Tryz.func383.trans (congrArg some (by kernel_rfl))⟩
 f24:=⟨Tryz.f384.name,by decide,Tryz.func384.trans (congrArg some (by kernel_rfl))⟩
 f25:=⟨Tryz.f385.name,by decide,Tryz.func385.trans (congrArg some (by kernel_rfl))⟩
 f26:=⟨Tryz.f386.name,by decide,Tryz.func386.trans (congrArg some (by kernel_rfl))⟩
 f27:=⟨Tryz.f387.name,by decide,Tryz.func387.trans (congrArg some (by kernel_rfl))⟩
 f28:=Tryz.func388.trans (congrArg some (by kernel_rfl))
 f29:=Tryz.func389.trans (congrArg some (by kernel_rfl))
 f46:=⟨Tryz.f394.name,by decide,Tryz.func394.trans (congrArg some (by kernel_rfl))⟩
 f47:=Tryz.func395.trans (congrArg some (by kernel_rfl))
 f48:=Tryz.func396.trans (congrArg some (by kernel_rfl))
 f49:=⟨Tryz.f397.name,by decide,Tryz.func397.trans (congrArg some (by kernel_rfl))⟩
 f50:=⟨Tryz.f398.name,by decide,Tryz.func398.trans (congrArg some (by kernel_rfl))⟩
 f57:=⟨Tryz.f399.name,by decide,Tryz.func399.trans (congrArg some (by kernel_rfl))⟩
 t0:=Tryz.underlying0
 a0:=Tryz.isAgg0
 z0:=Tryz.sizeOf0
 v0:=Tryz.zeroValue0
 t3:=Tryz.underlying3
 a3:=Tryz.isAgg3
 z3:=Tryz.sizeOf3
 v3:=Tryz.zeroValue3
 t4:=Tryz.underlying4
 a4:=Tryz.isAgg4
 z4:=Tryz.sizeOf4
 v4:=Tryz.zeroValue4
 t5:=Tryz.underlying5
 a5:=Tryz.isAgg5
 z5:=Tryz.sizeOf5
 v5:=Tryz.zeroValue5
 t9:=Tryz.underlying9
 a9:=Tryz.isAgg9
 z9:=Tryz.sizeOf9
 v9:=Tryz.zeroValue9
 t22:=Tryz.underlying194
 a22:=Tryz.isAgg194
 z22:=Tryz.sizeOf194
 v22:=Tryz.zeroValue194
 t25:=Tryz.underlying372
 a25:=Tryz.isAgg372
 z25:=Tryz.sizeOf372
 v25:=Tryz.zeroValue372
 t39:=Tryz.underlying98
 a39:=Tryz.isAgg98
 z39:=Tryz.sizeOf98
 v39:=Tryz.zeroValue98
 t45:=Tryz.underlying398
 a45:=Tryz.isAgg398
 z45:=Tryz.sizeOf398
 v45:=Tryz.zeroValue398
 t46:=Tryz.underlying399
 a46:=Tryz.isAgg399
 z46:=Tryz.sizeOf399
 v46:=Tryz.zeroValue399
 t50:=Tryz.underlying243
 a50:=Tryz.isAgg243
 z50:=Tryz.sizeOf243
 v50:=Tryz.zeroValue243
 t53:=Tryz.underlying46
 a53:=Tryz.isAgg46
 z53:=Tryz.sizeOf46
 v53:=Tryz.zeroValue46
 t55:=Tryz.underlying45
 a55:=Tryz.isAgg45
 z55:=Tryz.sizeOf45
 v55:=Tryz.zeroValue45
 t66:=Tryz.underlying407
 a66:=Tryz.isAgg407
 z66:=Tryz.sizeOf407
 v66:=Tryz.zeroValue407
 t70:=Tryz.underlying411
 a70:=Tryz.isAgg411
 z70:=Tryz.sizeOf411
 v70:=Tryz.zeroValue411
 t76:=Tryz.underlying413
 a76:=Tryz.isAgg413
 z76:=Tryz.sizeOf413
 v76:=Tryz.zeroValue413
 t77:=Tryz.underlying218
 a77:=Tryz.isAgg218
 z77:=Tryz.sizeOf218
 v77:=Tryz.zeroValue218}
def Tryz.laysIdx_ren:Go.Shelf.Ren:=⟨fun|29=>393|n=>n,fun|22=>314|23=>21|3=>3|0=>0|4=>4|n=>n,fun|n=>n⟩
theorem Tryz.laysIdx:Go.Proofs.SlLaysE.n29 Tryz.prog Tryz.laysIdx_ren:={
 mixed:=by kernel_rfl
 f29:=⟨Tryz.f393.name,by decide,Tryz.func393.trans (congrArg some (by kernel_rfl))⟩
 t0:=Tryz.underlying0
 a0:=Tryz.isAgg0
 z0:=Tryz.sizeOf0
 v0:=Tryz.zeroValue0
 t3:=Tryz.underlying3
 a3:=Tryz.isAgg3
 z3:=Tryz.sizeOf3
 v3:=Tryz.zeroValue3
 t4:=Tryz.underlying4
 a4:=Tryz.isAgg4
 z4:=Tryz.sizeOf4
 v4:=Tryz.zeroValue4
 t22:=Tryz.underlying314
 a22:=Tryz.isAgg314
 z22:=Tryz.sizeOf314
 v22:=Tryz.zeroValue314
 a23:=Tryz.isAgg21
 z23:=Tryz.sizeOf21}
def Tryz.laysClone_ren:Go.Shelf.Ren:=⟨fun|41=>305|n=>n,fun|22=>194|23=>316|4=>4|n=>n,fun|n=>n⟩
theorem Tryz.laysClone:Go.Proofs.SlLaysE0.n41 Tryz.prog Tryz.laysClone_ren:={
 mixed:=by kernel_rfl
 f41:=⟨Tryz.f305.name,by decide,Tryz.func305.trans (congrArg some (by kernel_rfl))⟩
 t4:=Tryz.underlying4
 a4:=Tryz.isAgg4
 z4:=Tryz.sizeOf4
 v4:=Tryz.zeroValue4
 t22:=Tryz.underlying194
 a22:=Tryz.isAgg194
 z22:=Tryz.sizeOf194
 v22:=Tryz.zeroValue194}
end Go.Proofs
namespace Go.Proofs.YtlglfmbccihopaaGreatDoor
open Go Go.RowKit
theorem ZhD:∀xs:List (List UInt8),Lib.join xs []=xs.flatten
 |[]=>by simp [Lib.join]
 |[x]=>by simp [Lib.join]
 |x::y::xs=>by
  have:=ZhD (y::xs);simp [Lib.join] at this⊢;exact this
theorem Zoy (bk c:Nat)(xs:List (List UInt8))(w:World)(hcells:∀(j:Nat) x,xs[j]? =some x→w.cell? ⟨bk,j,none⟩=some (.string (B x)))(h0:xs≠[])(hcap:xs.length≤c)(hl:xs.flatten.length≤35184372089000)(hn:xs.length≤35184372089000):
 Calls Tryz.prog 20 #[.slice (some ⟨bk,0,none⟩) xs.length c] w fun e w'=>e= .returned (.string (B xs.flatten))∧Below w.heap.size w w':=by
 have hbk:bk<w.heap.size:=by
  obtain⟨x,l,rfl⟩:=List.exists_cons_of_ne_nil h0;exact World.block_lt_of_cell? _ _ (hcells 0 x rfl)
 have hm:(xs.map B).map (·.data.toList)=xs:=by
  rw [List.map_map]
  conv=>rhs;rw [←List.map_id xs]
  exact List.map_congr_left fun x _=>Zbn x
 have hj:Calls Tryz.prog 34 #[.slice (some ⟨bk,0,none⟩) xs.length c,.string ⟨#[]⟩] w fun e w'=>e= .returned (.string (B xs.flatten))∧Below w.heap.size w w':=by
  have hq:=Tryz.strings_Join bk 0 c (xs.map B) ⟨#[]⟩ w (by
   intro j x hx;rw [List.getElem?_map] at hx;obtain⟨y,hy,rfl⟩:=Option.map_eq_some_iff.1 hx;rw [Nat.zero_add];exact hcells j y hy) hbk (by rw [List.length_map];omega) (by rw [List.length_map];exact hcap) (by
    rw [hm];show(Lib.join xs []).length≤_
    rw [ZhD];omega)
  rw [List.length_map,hm] at hq;have e:Lib.join xs (⟨#[]⟩:ByteArray).data.toList=xs.flatten:=ZhD xs;rw [e] at hq;exact hq
 go_enter Tryz.func20,Tryz.ntmps20
 go_wp2_with (go_at_call 34;refine hj.mono ?_;rintro e w1 ⟨rfl,hb1⟩)
 go_ret
 exact⟨rfl,hb1⟩
end Go.Proofs.YtlglfmbccihopaaGreatDoor
