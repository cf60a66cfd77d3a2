/- Lemmas for a statement on the tops; conditions: as each says. -/
import Derived.Lib.ValidU
import Derived.Deep.QuietTactic
import Derived.BigQuiet
import Derived.Shelf.SlGeneric
import Derived.Shelf.SlSortCmp.WholeK
import Derived.Shelf.SlicesE.Clone
import Derived.Shelf.SlicesE.Index
import Derived.Ground.SlsfProg
import Derived.Ground.SlgnProg
import Derived.Test.YtlfinljfghhpdaaGreatDoorM3
set_option linter.unusedVariables false
set_option linter.unusedSimpArgs false
set_option maxRecDepth 100000
set_option maxHeartbeats 2000000
namespace Go.Proofs.YtlfinljfghhpdaaGreatDoor
open Go Go.RowKit
theorem Zhc (l:List UInt8):Lib.decodeL l=Zu l:=by
 unfold Lib.decodeL;rw [Zhd];rfl
theorem Znz:∀(ps:List Int) (n:Nat),(∀p∈ps,Ze p=true)→Lib.validGoD n (Zb ps)=true
 |_,0,_=>rfl
 |[],n+1,_=>by simp [Lib.validGoD,ZbE]
 |p::ps,n+1,h=>by
  have hs:=h p (List.mem_cons_self ..);have hd:Zu (Zb (p::ps))=(p.toNat,(Lib.encodeRune p).length):=by rw [ZaG];exact ZdR hs _
  have he:=ZfQ hs (Zb ps);rw [←ZaG] at he;unfold Lib.validGoD;rw [Zhc,hd] at*;split
  · rfl
  · rw [if_neg]
    · have:(Zb (p::ps)).drop (Lib.encodeRune p).length=Zb ps:=by rw [ZaG,List.drop_left]
      simp only;rw [this];exact Znz ps n fun q hq=>h q (List.mem_cons_of_mem _ hq)
    · rintro⟨h1,h2⟩;exact he ⟨h1,by simp only at h2⊢;omega⟩
theorem Zq5 (n b0 b1 b2 b3:Nat):1≤(Lib.decodeN n b0 b1 b2 b3).2:=by
 unfold Lib.decodeN
 repeat' split
 all_goals simp
theorem Zrp {l:List UInt8} (h:ZaF (Zu l)):(Zu l).1=65533∧(Zu l).2=1:=by
 have:=Zq5 l.length (l.getD 0 0).toNat (l.getD 1 0).toNat (l.getD 2 0).toNat (l.getD 3 0).toNat;have h2:=h.2;unfold Zu at h2⊢;exact⟨h.1,by omega⟩
theorem Zny:∀(ps:List Int) (r:List UInt8) (n:Nat),ps.length<n→(∀p∈ps,Ze p=true)→r≠[]→ZaF (Zu r)→Lib.validGoD n (Zb ps++r)=false
 |_,_,0,hn,_,_,_=>by omega
 |[],r,n+1,_,_,hr,he=>by
  unfold Lib.validGoD;rw [ZbE,List.nil_append,if_neg hr,Zhc,if_pos (Zrp he)]
 |p::ps,r,n+1,hn,h,hr,he=>by
  have hs:=h p (List.mem_cons_self ..);have hd:Zu (Zb (p::ps)++r)=(p.toNat,(Lib.encodeRune p).length):=by rw [ZaG,List.append_assoc];exact ZdR hs _
  have he1:=ZfQ hs (Zb ps++r);rw [←List.append_assoc,←ZaG] at he1;unfold Lib.validGoD;rw [Zhc,hd] at*;rw [if_neg (by intro h0;exact hr (List.append_eq_nil_iff.1 h0).2),if_neg]
  · have:(Zb (p::ps)++r).drop (Lib.encodeRune p).length=Zb ps++r:=by rw [ZaG,List.append_assoc,List.drop_left]
    simp only;rw [this];exact Zny ps r n (by simp at hn;omega) (fun q hq=>h q (List.mem_cons_of_mem _ hq)) hr he
  · rintro⟨h1,h2⟩;exact he1 ⟨h1,by simp only at h2⊢;omega⟩
theorem Good.valid {s:ByteArray} {ps:List Int} (h:Good s ps):Lib.validD s.data.toList=true:=by
 unfold Lib.validD;rw [h.1];exact Znz ps _ h.2
theorem Zbr.valid {s:ByteArray} {n:Nat} (h:Zbr s n):Lib.validD s.data.toList=false:=by
 obtain⟨ps,r,h1,h2,_,h4,h5⟩:=h;unfold Lib.validD;rw [h1];refine Zny ps r _ ?_ h2 h4 h5;have:=(Zah ps).1;have:0<r.length:=List.length_pos_iff.2 h4;rw [List.length_append];omega
theorem Zqc (s:ByteArray)(ps:List Int)(hg:Good s ps)(hs:s.size≤140737488355328)(w:World)(hT:Zj w):
 Calls Tryz.prog 95 #[.string s] w fun e w'=>e= .returned (.bool true)∧Below w.heap.size w w':=by
 have h:=ZjV s hs w hT;rw [hg.valid] at h;exact h
theorem Zqb (s:ByteArray)(n:Nat)(hg:Zbr s n)(hs:s.size≤140737488355328)(w:World)(hT:Zj w):
 Calls Tryz.prog 95 #[.string s] w fun e w'=>e= .returned (.bool false)∧Below w.heap.size w w':=by
 have h:=ZjV s hs w hT;rw [hg.valid] at h;exact h
theorem ZlT (w:World)(e:TypeId)(z:Int)(k:IntKind):ZA (w.alloc (.cells #[.int k z] e)) (w.heap.size+1) k (some ⟨w.heap.size,0,none⟩) [z]:=Zc1 w e [z] k
theorem ZgM (p:Int)(hp:Ze p=true)(c:Nat)(w:World):
 Calls Tryz.prog 258 #[.slice (some ⟨w.heap.size,0,none⟩) 1 c] (w.alloc (.cells #[.int .i32 p] 21)) fun e w'=>e= .returned (.tuple #[.string ⟨(Lib.encodeRune p).toArray⟩,.bool true])∧Below (w.alloc (.cells #[.int .i32 p] 21)).heap.size (w.alloc (.cells #[.int .i32 p] 21)) w':=by
 have h:=ZjT (some ⟨w.heap.size,0,none⟩) c [p] _ (ZlT w 21 p .i32) (by simp) (by simpa using hp) (by simp);have e:Zb [p]=Lib.encodeRune p:=by simp [Zb]
 rw [e] at h;exact h
theorem Zp3 (p:Int)(hp:Ze p=false)(c:Nat)(w:World):
 Calls Tryz.prog 258 #[.slice (some ⟨w.heap.size,0,none⟩) 1 c] (w.alloc (.cells #[.int .i32 p] 21)) fun e w'=>e= .returned (.tuple #[.string ⟨#[]⟩,.bool false])∧(w.alloc (.cells #[.int .i32 p] 21))=w':=
 Zp2 (some ⟨w.heap.size,0,none⟩) c [p] _ (ZlT w 21 p .i32) (by simp [hp]) (by simp)
end Go.Proofs.YtlfinljfghhpdaaGreatDoor
namespace Go.Proofs.YtlfinljfghhpdaaGreatDoor
open Go
def B (l:List UInt8):ByteArray:=⟨l.toArray⟩
theorem ZQ (l:List UInt8):(B l).data.toList=l:=by simp [B]
theorem Zy (l:List UInt8):(B l).size=l.length:=by simp [B,ByteArray.size]
theorem Zcr (s:ByteArray):s=B s.data.toList:=by simp [B]
theorem Zgn (l:List UInt8)(a b:Nat):(B l).extract a b=B ((l.take b).drop a):=by
 rw [Zcr ((B l).extract a b)];congr 1
 simp [B,ByteArray.data_extract,List.extract,List.drop_take]
theorem ZeY (l:List UInt8)(a b:Nat):(B l).extract a b=B ((l.drop a).take (b - a)):=by
 rw [Zgn,List.drop_take]
theorem drop_at (s:ByteArray)(i:Nat)(h:i<s.size):s.data.toList.drop i=s[i]::s.data.toList.drop (i+1):=by
 rw [List.drop_eq_getElem_cons (by simpa using h)];rfl
theorem ZaR (s:ByteArray):s.data.toList.length=s.size:=by simp
def Zdl (c:UInt8):Bool:=decide (48≤c.toNat)&&decide (c.toNat≤57)
def ZR:List UInt8→List UInt8→Bool
 |[],[]=>true
 |a::s,f::r=>(if f=48 then Zdl a else a==f)&&ZR s r
 |_,_=>false
theorem ZeB:∀s f:List UInt8,ZR s f=true→s.length=f.length
 |[],[],_=>rfl
 |a::s,f::r,h=>by
  simp only [ZR,Bool.and_eq_true] at h;simp [ZeB s r h.2]
 |[],_::_,h=>by simp [ZR] at h
 |_::_,[],h=>by simp [ZR] at h
theorem Zc8 {a b:UInt8} (h:a≠b):a.toNat≠b.toNat:=fun e=>h (UInt8.toNat_inj.1 e)
end Go.Proofs.YtlfinljfghhpdaaGreatDoor
namespace Go.Proofs.YtlfinljfghhpdaaGreatDoor
open Go Go.RowKit
structure But (C B:Nat)(w w':World):Prop where
 os:w'.os=w.os
 tape:w'.tape=w.tape
 output:w'.output=w.output
 size:w.heap.size≤w'.heap.size
 block:∀k,k<B→k≠C→w'.heap[k]? =w.heap[k]?
theorem But.of {C B:Nat} {w w':World} (h:Below B w w'):But C B w w':=⟨h.os,h.tape,h.output,h.size,fun k hk _=>h.block k hk⟩
theorem But.refl (C B:Nat)(w:World):But C B w w:= .of (Below.refl B w)
theorem But.trans {C B:Nat} {a b c:World} (h:But C B a b)(k:But C B b c):But C B a c:=
 ⟨k.os.trans h.os,k.tape.trans h.tape,k.output.trans h.output,Nat.le_trans h.size k.size,fun i hi hc=>(k.block i hi hc).trans (h.block i hi hc)⟩
theorem But.mono {C B B':Nat} {w w':World} (h:But C B w w')(hB:B'≤B):But C B' w w':=⟨h.os,h.tape,h.output,h.size,fun k hk=>h.block k (Nat.lt_of_lt_of_le hk hB)⟩
theorem But.setCell {C B:Nat} {a w:World} (h:But C B a w){p:Addr} (hp:B≤p.block∨p.block=C)(u:Value):But C B a (w.setCell p u):=
 h.trans ⟨rfl,rfl,rfl,by simp [World.setCell],fun k hk hc=>Below.heap_setCell _ _ _ _ (by rcases hp with hp|hp<;>omega)⟩
theorem But.below {C B:Nat} {w w':World} (h:But C B w w')(hB:B≤C):Below B w w':=⟨h.os,h.tape,h.output,h.size,fun k hk=>h.block k hk (by omega)⟩
theorem But.cell {C B:Nat} {w w':World} (h:But C B w w'){p:Addr} (hp:p.block<B)(hc:p.block≠C):w'.cell? p=w.cell? p:=World.cell?_of_block (w:=w) (h.block p.block hp hc)
theorem ZsW {C:Nat} {w w1:World} {base:Nat} {e:TypeId} {size:Nat} {v:Value} {n:Nat} {xs:List Value} (h:w.ownsRow base e size v n xs)(hb:But C w.heap.size w w1)(hC:C<base):w1.ownsRow base e size v n xs:=
 h.kept (row:=some C) ⟨hb.os,hb.tape,hb.output,hb.size,fun k hk hc=>hb.block k hk (fun e=>hc (by rw [e]))⟩ (.inr fun e=>by
  have:=(h.lt C e).1;omega)
end Go.Proofs.YtlfinljfghhpdaaGreatDoor
namespace Go.Proofs
open Go.Shelf
def Tryz.laysSort_ren:Go.Shelf.Ren:=⟨fun|6=>381|15=>401|14=>400|28=>417|29=>418|20=>409|21=>410|22=>411|23=>412|24=>413|25=>414|26=>415|27=>416|46=>422|47=>423|48=>424|49=>425|50=>426|57=>427|n=>n,fun|22=>209|24=>331|25=>390|3=>3|39=>203|0=>0|53=>56|55=>55|4=>4|46=>408|45=>407|50=>226|5=>5|9=>9|66=>415|70=>419|76=>421|77=>82|n=>n,fun|n=>n⟩
theorem Tryz.laysSort:Go.Proofs.SlLaysF0.n6 Tryz.prog Tryz.laysSort_ren:={
 mixed:=by kernel_rfl
 f6:=⟨Tryz.f381.name,by decide,Tryz.func381.trans (congrArg some (by kernel_rfl))⟩
 f14:=⟨Tryz.f400.name,by decide,Tryz.func400.trans (congrArg some (by kernel_rfl))⟩
 f15:=Tryz.func401.trans (congrArg some (by kernel_rfl))
 f20:=⟨Tryz.f409.name,by decide,Tryz.func409.trans (congrArg some (by kernel_rfl))⟩
 f21:=⟨Tryz.f410.name,by decide,Tryz.func410.trans (congrArg some (by kernel_rfl))⟩
 f22:=⟨Tryz.f411.name,by decide,Tryz.func411.trans (congrArg some (by kernel_rfl))⟩
 f23:=⟨Tryz.f412.name,by decide,Tryz.func412.trans (congrArg some (by kernel_rfl))⟩
 f24:=⟨Tryz.f413.name,by decide,Tryz.func413.trans (congrArg some (by kernel_rfl))⟩
 f25:=⟨Tryz.f414.name,by decide,Tryz.func414.trans (congrArg some (by kernel_rfl))⟩
 f26:=⟨Tryz.f415.name,by decide,Tryz.func415.trans (congrArg some (by kernel_rfl))⟩
 f27:=⟨Tryz.f416.name,by decide,Tryz.func416.trans (congrArg some (by kernel_rfl))⟩
 f28:=Tryz.func417.trans (congrArg some (by kernel_rfl))
 f29:=Tryz.func418.trans (congrArg some (by kernel_rfl))
 f46:=⟨Tryz.f422.name,by decide,Tryz.func422.trans (congrArg some (by kernel_rfl))⟩
 f47:=Tryz.func423.trans (congrArg some (by kernel_rfl))
 f48:=Tryz.func424.trans (congrArg some (by kernel_rfl))
 f49:=⟨Tryz.f425.name,by decide,Tryz.func425.trans (congrArg some (by kernel_rfl))⟩
 f50:=⟨Tryz.f426.name,by decide,Tryz.func426.trans (congrArg some (by kernel_rfl))⟩
 f57:=⟨Tryz.f427.name,by decide,Tryz.func427.trans (congrArg some (by kernel_rfl))⟩
 t0:=Tryz.underlying0
 a0:=Tryz.isAgg0
 z0:=Tryz.sizeOf0
 v0:=Tryz.zeroValue0
 t3:=Tryz.underlying3
 a3:=Tryz.isAgg3
 z3:=Tryz.sizeOf3
 v3:=Tryz.zeroValue3
 t4:=Tryz.underlying4
 a4:=Tryz.isAgg4
 z4:=Tryz.sizeOf4
 v4:=Tryz.zeroValue4
 t5:=Tryz.underlying5
 a5:=Tryz.isAgg5
 z5:=Tryz.sizeOf5
 v5:=Tryz.zeroValue5
 t9:=Tryz.underlying9
 a9:=Tryz.isAgg9
 z9:=Tryz.sizeOf9
 v9:=Tryz.zeroValue9
 t22:=Tryz.underlying209
 a22:=Tryz.isAgg209
 z22:=Tryz.sizeOf209
 v22:=Tryz.zeroValue209
 t25:=Tryz.underlying390
 a25:=Tryz.isAgg390
 z25:=Tryz.sizeOf390
 v25:=Tryz.zeroValue390
 t39:=Tryz.underlying203
 a39:=Tryz.isAgg203
 z39:=Tryz.sizeOf203
 v39:=Tryz.zeroValue203
 t45:=Tryz.underlying407
 a45:=Tryz.isAgg407
 z45:=Tryz.sizeOf407
 v45:=Tryz.zeroValue407
 t46:=Tryz.underlying408
 a46:=Tryz.isAgg408
 z46:=Tryz.sizeOf408
 v46:=Tryz.zeroValue408
 t50:=Tryz.underlying226
 a50:=Tryz.isAgg226
 z50:=Tryz.sizeOf226
 v50:=Tryz.zeroValue226
 t53:=Tryz.underlying56
 a53:=Tryz.isAgg56
 z53:=Tryz.sizeOf56
 v53:=Tryz.zeroValue56
 t55:=Tryz.underlying55
 a55:=Tryz.isAgg55
 z55:=Tryz.sizeOf55
 v55:=Tryz.zeroValue55
 t66:=Tryz.underlying415
 a66:=Tryz.isAgg415
 z66:=Tryz.sizeOf415
 v66:=Tryz.zeroValue415
 t70:=Tryz.underlying419
 a70:=Tryz.isAgg419
 z70:=Tryz.sizeOf419
 v70:=Tryz.zeroValue419
 t76:=Tryz.underlying421
 a76:=Tryz.isAgg421
 z76:=Tryz.sizeOf421
 v76:=Tryz.zeroValue421
 t77:=Tryz.underlying82
 a77:=Tryz.isAgg82
 z77:=Tryz.sizeOf82
 v77:=Tryz.zeroValue82}
def Tryz.laysClone_ren:Go.Shelf.Ren:=⟨fun|41=>343|n=>n,fun|22=>209|23=>331|4=>4|n=>n,fun|n=>n⟩
theorem Tryz.laysClone:Go.Proofs.SlLaysE0.n41 Tryz.prog Tryz.laysClone_ren:={
 mixed:=by kernel_rfl
 f41:=⟨Tryz.f343.name,by decide,Tryz.func343.trans (congrArg some (by kernel_rfl))⟩
 t4:=Tryz.underlying4
 a4:=Tryz.isAgg4
 z4:=Tryz.sizeOf4
 v4:=Tryz.zeroValue4
 t22:=Tryz.underlying209
 a22:=Tryz.isAgg209
 z22:=Tryz.sizeOf209
 v22:=Tryz.zeroValue209}
end Go.Proofs
namespace Go.Proofs.YtlfinljfghhpdaaGreatDoor
open Go Go.RowKit
theorem Zjl (c:UInt8)(w:World):
 Calls Tryz.prog 195 #[.int .u8 (c.toNat:Int)] w fun e w'=>e= .returned (.bool (Zdl c))∧w=w':=by
 have h:Zdl c=(decide ((48:Int)≤c.toNat)&&decide ((c.toNat:Int)≤57)):=by
  unfold Zdl;congr 1<;>(rw [decide_eq_decide];omega)
 rw [h];generalize c.toNat=n;go_enter Tryz.func195,Tryz.ntmps195
 go_wp2
 all_goals go_ret
 all_goals refine⟨Zd9 ?_,rfl⟩
 all_goals simp<;>omega
def Zow (s f:ByteArray)(i:Value):Prop:=∃k:Nat,k≤f.size∧i= .int .i64 k∧ZR s.data.toList f.data.toList=ZR (s.data.toList.drop k) (f.data.toList.drop k)
theorem Zsb (s f:ByteArray)(h:s.size≠f.size):ZR s.data.toList f.data.toList=false:=by
 rw [Bool.eq_false_iff];intro e;have:=ZeB _ _ e;rw [ZaR,ZaR] at this;exact h this
theorem Zsa (s f:ByteArray)(h:s.size=f.size):ZR (s.data.toList.drop f.size) (f.data.toList.drop f.size)=true:=by
 rw [List.drop_of_length_le (by rw [ZaR];omega),List.drop_of_length_le (by rw [ZaR];omega)];rfl
theorem Zgy (s f:ByteArray)(hs:s.size≤140737488355328)(w:World):
 Calls Tryz.prog 118 #[.string s,.string f] w fun e w'=>e= .returned (.bool (ZR s.data.toList f.data.toList))∧Below w.heap.size w w':=by
 by_cases hne:s.size=f.size
 · go_enter Tryz.func118,Tryz.ntmps118
   have hE:=Lib.hid (Zsa s f hne);have Hne:=Lib.hid hne;have hle:f.size≤140737488355328:=by omega
   have hc:((s.size:Int) !=(f.size:Int))=false:=by simp [hne]
   clear hne;go_wp2_with fail
   go_loopw [13] (fun i wr=>Zow s f i∧Below w.heap.size w wr) (fun i _=>f.size - (intOf i).toNat)
   case atStart=>exact⟨⟨0,by omega,rfl,by simp⟩,Below.refl _ _⟩
   case round=>
    obtain⟨⟨k,hk,rfl,heq⟩,hb⟩:=hrel;by_cases hlt:k<f.size
    · have hks:k<s.size:=by have:=Hne.out;omega
      have hst:ZR s.data.toList f.data.toList=((if f[k]=48 then Zdl s[k] else s[k]==f[k])&&ZR (s.data.toList.drop (k+1)) (f.data.toList.drop (k+1))):=by
       rw [heq,drop_at s k hks,drop_at f k hlt];rfl
      have Hst:=Lib.hid hst;clear heq hst;have hdg:=fun w=>Zjl s[k] w;have u1:=s[k].toNat_lt;have u2:=f[k].toNat_lt;by_cases h48:f[k]=48
      · have e48:((f[k].toNat:Int)==48)=true:=by rw [h48];rfl
        cases hd:Zdl s[k]
        · rw [hd] at hdg;have hres:=Lib.hid (show ZR s.data.toList f.data.toList=false by rw [Hst.out,if_pos h48,hd];rfl);clear Hst;go_wp2_with (first|(go_at_call 195;refine(hdg _).mono ?_;rintro e w1 ⟨rfl,rfl⟩))
          go_ret
          rw [hres.out];exact⟨rfl,hb⟩
        · rw [hd] at hdg;have hres:=Lib.hid (show ZR s.data.toList f.data.toList=ZR (s.data.toList.drop (k+1)) (f.data.toList.drop (k+1)) by rw [Hst.out,if_pos h48,hd];rfl);clear Hst;go_wp2_with (first|(go_at_call 195;refine(hdg _).mono ?_;rintro e w1 ⟨rfl,rfl⟩))
          go_roundw
          case rel=>exact⟨⟨k+1,by omega,by go_num,hres.out⟩,hb⟩
          case measure=>simp [intOf];omega
      · have e48:((f[k].toNat:Int)==48)=false:=by
         rw [beq_eq_false_iff_ne];intro e;exact h48 (UInt8.toNat_inj.1 (by show f[k].toNat=48;omega))
        by_cases hq:s[k]=f[k]
        · have hres:=Lib.hid (show ZR s.data.toList f.data.toList=ZR (s.data.toList.drop (k+1)) (f.data.toList.drop (k+1)) by rw [Hst.out,if_neg h48,hq];simp);have hqn:((s[k].toNat:Int) !=(f[k].toNat:Int))=false:=by rw [hq];simp
          clear Hst hdg;go_wp2_with fail
          go_quiet (fail)
          go_wp2_with fail
          go_roundw
          case rel=>exact⟨⟨k+1,by omega,by go_num,hres.out⟩,below_drewN hb _⟩
          case measure=>simp [intOf];omega
        · have hres:=Lib.hid (show ZR s.data.toList f.data.toList=false by rw [Hst.out,if_neg h48,beq_eq_false_iff_ne.2 hq];rfl);have hqn:((s[k].toNat:Int) !=(f[k].toNat:Int))=true:=by
           rw [bne_iff_ne];intro e;exact hq (UInt8.toNat_inj.1 (by omega))
          clear Hst hdg;go_wp2_with fail
          go_quiet (fail)
          go_wp2_with fail
          go_ret
          rw [hres.out];exact⟨rfl,below_drewN hb _⟩
    · have hk2:k=f.size:=by omega
      subst hk2;have hres:=Lib.hid (show ZR s.data.toList f.data.toList=true by rw [heq];exact hE.out);clear heq hlt;go_wp2_with fail
      go_ret
      rw [hres.out];exact⟨rfl,hb⟩
 · have hr:=Lib.hid (Zsb s f hne);have hc:((s.size:Int) !=(f.size:Int))=true:=by simp;omega
   go_enter Tryz.func118,Tryz.ntmps118
   go_wp2_with fail
   go_ret
   rw [hr.out];exact⟨rfl,Below.refl _ _⟩
theorem ZhJ:∀xs:List (List UInt8),Lib.join xs []=xs.flatten
 |[]=>by simp [Lib.join]
 |[x]=>by simp [Lib.join]
 |x::y::xs=>by
  have:=ZhJ (y::xs);simp [Lib.join] at this⊢;exact this
theorem Zjv (bk c:Nat)(xs:List (List UInt8))(w:World)(hcells:∀(j:Nat) x,xs[j]? =some x→w.cell? ⟨bk,j,none⟩=some (.string (B x)))(h0:xs≠[])(hcap:xs.length≤c)(hl:xs.flatten.length≤35184372089000)(hn:xs.length≤35184372089000):
 Calls Tryz.prog 88 #[.slice (some ⟨bk,0,none⟩) xs.length c] w fun e w'=>e= .returned (.string (B xs.flatten))∧Below w.heap.size w w':=by
 have hbk:bk<w.heap.size:=by
  obtain⟨x,l,rfl⟩:=List.exists_cons_of_ne_nil h0;exact World.block_lt_of_cell? _ _ (hcells 0 x rfl)
 have hm:(xs.map B).map (·.data.toList)=xs:=by
  rw [List.map_map]
  conv=>rhs;rw [←List.map_id xs]
  exact List.map_congr_left fun x _=>ZQ x
 have hj:Calls Tryz.prog 166 #[.slice (some ⟨bk,0,none⟩) xs.length c,.string ⟨#[]⟩] w fun e w'=>e= .returned (.string (B xs.flatten))∧Below w.heap.size w w':=by
  have hq:=Tryz.strings_Join bk 0 c (xs.map B) ⟨#[]⟩ w (by
   intro j x hx;rw [List.getElem?_map] at hx;obtain⟨y,hy,rfl⟩:=Option.map_eq_some_iff.1 hx;rw [Nat.zero_add];exact hcells j y hy) hbk (by rw [List.length_map];omega) (by rw [List.length_map];exact hcap) (by
    rw [hm];show(Lib.join xs []).length≤_
    rw [ZhJ];omega)
  rw [List.length_map,hm] at hq;have e:Lib.join xs (⟨#[]⟩:ByteArray).data.toList=xs.flatten:=ZhJ xs;rw [e] at hq;exact hq
 go_enter Tryz.func88,Tryz.ntmps88
 go_wp2_with (go_at_call 166;refine hj.mono ?_;rintro e w1 ⟨rfl,hb1⟩)
 go_ret
 exact⟨rfl,hb1⟩
theorem bx3 {w wr:World} {T:TypeId} {a b c:Value} (hb:Below (w.alloc (.cells #[a,b,c] T)).heap.size (w.alloc (.cells #[a,b,c] T)) wr):
 wr.cell? ⟨w.heap.size,0,none⟩=some a∧wr.cell? ⟨w.heap.size,1,none⟩=some b∧wr.cell? ⟨w.heap.size,2,none⟩=some c∧wr.frozen? ⟨w.heap.size,0,none⟩=false∧wr.frozen? ⟨w.heap.size,1,none⟩=false∧wr.frozen? ⟨w.heap.size,2,none⟩=false∧w.heap.size<wr.heap.size:=by
 have h1:=hb.size;simp only [World.size_alloc] at h1;have hl:w.heap.size<(w.alloc (.cells #[a,b,c] T)).heap.size:=by simp
 have e:=heap_alloc_new w (.cells #[a,b,c] T);refine⟨?_,?_,?_,?_,?_,?_,by omega⟩
 · rw [hb.cell (p:=⟨w.heap.size,0,none⟩) hl,cell_of_row _ w.heap.size 0 _ T (0,0) e];rfl
 · rw [hb.cell (p:=⟨w.heap.size,1,none⟩) hl,cell_of_row _ w.heap.size 1 _ T (0,0) e];rfl
 · rw [hb.cell (p:=⟨w.heap.size,2,none⟩) hl,cell_of_row _ w.heap.size 2 _ T (0,0) e];rfl
 · rw [hb.frozen (p:=⟨w.heap.size,0,none⟩) hl,frozen_of_row _ w.heap.size 0 _ T e]
 · rw [hb.frozen (p:=⟨w.heap.size,1,none⟩) hl,frozen_of_row _ w.heap.size 1 _ T e]
 · rw [hb.frozen (p:=⟨w.heap.size,2,none⟩) hl,frozen_of_row _ w.heap.size 2 _ T e]
def Zdv:List UInt8:=[109,97,114,107]
theorem Zen (n s:ByteArray)(w:World):
 Calls Tryz.prog 199 #[.string n,.string s] w fun e w'=>e= .returned (.agg #[.bool false,.string n,.string s])∧Below w.heap.size w w':=by
 go_enter Tryz.func199,Tryz.ntmps199
 go_wp2_with fail
 refine bodyPost_ret (v:= .agg #[.bool false,.string n,.string s]) (by simp [results,Tryz.results199,go_sem]) rfl ⟨rfl,?_⟩;exact(Below.refl _ w).alloc (Nat.le_refl _) _
theorem ZgA (bk c:Nat)(xs:List (List UInt8))(w:World)(hcells:∀(j:Nat) x,xs[j]? =some x→w.cell? ⟨bk,j,none⟩=some (.string (B x)))(h0:xs≠[])(hcap:xs.length≤c)(hl:xs.flatten.length≤35184372089000)(hn:xs.length≤35184372089000):
 Calls Tryz.prog 197 #[.slice (some ⟨bk,0,none⟩) xs.length c] w fun e w'=>e= .returned (.agg #[.bool true,.string (B Zdv),.string (B xs.flatten)])∧Below w.heap.size w w':=by
 have hbk:bk<w.heap.size:=by
  obtain⟨x,l,rfl⟩:=List.exists_cons_of_ne_nil h0;exact World.block_lt_of_cell? _ _ (hcells 0 x rfl)
 have hj:=fun(o:Obj)=>Zjv bk c xs (w.alloc o) (fun j x hx=>(World.cell?_alloc_lt w o _ hbk).trans (hcells j x hx)) h0 hcap hl hn;go_enter Tryz.func197,Tryz.ntmps197
 go_wp2_with (go_at_call 88;refine(hj _).mono ?_;rintro e w1 ⟨rfl,hb1⟩;have hz1:=Zag hb1;obtain⟨c0,c1,c2,f0,f1,f2,hlt⟩:=bx3 hb1)
 refine bodyPost_ret (v:= .agg #[.bool true,.string (B Zdv),.string (B xs.flatten)]) (by simp [results,Tryz.results197,go_sem,c0,c1,c2];rfl) rfl ⟨rfl,?_⟩;exact(((Zf hb1).setCell (Nat.le_refl _) _).setCell (Nat.le_refl _) _).setCell (Nat.le_refl _) _
end Go.Proofs.YtlfinljfghhpdaaGreatDoor
