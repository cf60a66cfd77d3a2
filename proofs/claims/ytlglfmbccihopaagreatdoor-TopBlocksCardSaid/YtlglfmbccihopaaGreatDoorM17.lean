/- Lemmas for a statement on the tops; conditions: as each says. -/
import Derived.Deep.RegionHeld3
import Derived.Maps.OwnOps
import Derived.Maps.OwnSet
import Derived.Maps.Views
import Derived.DeepKeys4
import Derived.Test.YtlglfmbccihopaaGreatDoorM3
import Derived.Test.YtlglfmbccihopaaGreatDoorM16
set_option linter.unusedVariables false
set_option linter.unusedSimpArgs false
set_option maxRecDepth 100000
set_option maxHeartbeats 4000000
namespace Go.Proofs.YtlglfmbccihopaaGreatDoor
open Go Go.RowKit
theorem ZnC (s:ByteArray)(ps:List Int)(h:Hex s ps)(k:Int)(hs:s.size≤100000)(hkb: -100000≤k∧k≤100000)(w:World):
 Calls Tryz.prog 349 #[.string s,.int .i64 k] w fun e w'=>e= .returned (.tuple #[.int .i32 (if 0≤k∧k<ps.length then ps.getD k.toNat 0 else 0),.bool (decide (0≤k∧k<ps.length))])∧Below w.heap.size w w':=by
 by_cases hk:0≤k∧k<ps.length
 · have:=At_in s ps h k.toNat (by omega) hs w;have e:((k.toNat:Nat):Int)=k:=by omega
   rw [e] at this;simp only [hk,and_self,if_true,decide_true];exact this
 · have:=At_out s ps h k (by omega) hs hkb w;simp only [if_neg hk,decide_eq_false hk];exact this
theorem Cell_b (b:Int)(hb: -1000≤b∧b≤1000)(w:World):
 Calls Tryz.prog 347 #[.int .i64 b] w fun e w'=>e= .returned (.int .i64 (ZX b))∧Below w.heap.size w w':=
 (Zgv b hb w).mono fun e w' h=>⟨h.1,by rw [←h.2];exact Below.refl _ _⟩
theorem len11:∀k,k<11→(Za9 k).length≤157∧0≤ZcJ k∧ZcJ k≤255∧64≤Zbd k∧Zbd k≤254∧0≤ZX (Zbd k)∧ZX (Zbd k)+(Za9 k).length≤157:=by decide+kernel
theorem mem11 {k:Nat} (h:k<11):SP.getD k (0,0,[])∈SP:=by
 rw [List.getD_eq_getElem?_getD,List.getElem?_eq_getElem (by simpa [SP] using h)];simp
theorem drop11 {k:Nat} (h:k<11):SP.drop k=(ZcJ k,Zbd k,Za9 k)::SP.drop (k+1):=by
 have hl:k<SP.length:=by simpa [SP] using h
 rw [List.drop_eq_getElem_cons hl];simp only [ZcJ,Zbd,Za9,List.getD_eq_getElem?_getD,List.getElem?_eq_getElem hl,Option.getD_some]
theorem hex11 {k:Nat} (h:k<11):Hex (sB k) (Za9 k)∧(sB k).size≤100000:=by
 have hx:Hex (sB k) (Za9 k):=⟨by simp [sB,Za9],fun p hp=>by have:=Zij (mem11 h) p hp;omega⟩
 refine⟨hx,?_⟩;have:=(len11 k h).1;rw [hx.size];omega
theorem Zs3 {k:Nat} (h:k<11){j:Nat} (hj:j<(Za9 k).length):128<(Za9 k).getD j 0∧(Za9 k).getD j 0≤65535:=by
 have:=Zij (mem11 h) _ (ZkY hj);exact⟨this.1,this.2.1⟩
theorem ZrT {k:Nat} (h:k<11)(lead c:Int):ZaB (SP.drop k) lead c=if ZcJ k=lead∧0≤c - ZX (Zbd k)∧c - ZX (Zbd k)<(Za9 k).length then(Za9 k).getD (c - ZX (Zbd k)).toNat 0 else ZaB (SP.drop (k+1)) lead c:=by
 rw [drop11 h];rfl
def Zaa (lead b:Int):Int:=if ZX b<0 then 0 else ZaB SP lead (ZX b)
theorem ZrS (lead c:Int):ZaB (SP.drop 11) lead c=0:=rfl
theorem ZjS {w' w'':World} {a:Addr} {v:Value} (h:w'.cell? a=some v)(hb:Below w'.heap.size w' w''):w''.cell? a=some v:=by
 rw [hb.cell (World.block_lt_of_cell? _ _ h),h]
theorem ZjY {W w' w'':World} {a0 a1:Addr} {v0 v1:Value} (h:w'.cell? a0=some v0∧w'.cell? a1=some v1∧Below W.heap.size W w')(hb:Below w'.heap.size w' w''):
 w''.cell? a0=some v0∧w''.cell? a1=some v1∧Below W.heap.size W w'':=
 ⟨ZjS h.1 hb,ZjS h.2.1 hb,h.2.2.trans (hb.mono h.2.2.size)⟩
theorem box3 (w:World)(T:TypeId)(a b c:Value):(w.alloc (.cells #[a,b,c] T)).cell? ⟨w.heap.size,0,none⟩=some a∧(w.alloc (.cells #[a,b,c] T)).cell? ⟨w.heap.size,1,none⟩=some b∧(w.alloc (.cells #[a,b,c] T)).cell? ⟨w.heap.size,2,none⟩=some c:=by
 have hc:=fun j=>cell_of_row (w.alloc (.cells #[a,b,c] T)) w.heap.size j _ T (0,0) (heap_alloc_new w _);rw [hc 0,hc 1,hc 2];exact⟨rfl,rfl,rfl⟩
def OneRel (lead c:Int)(w0:World)(i:Value)(wr:World):Prop:=∃k:Nat,k≤11∧i= .int .i64 k∧ZaB SP lead c=ZaB (SP.drop k) lead c∧Below w0.heap.size w0 wr
theorem Zjc (lead b:Int)(hl:0≤lead∧lead≤255)(hb:0≤b∧b≤255)(w:World):
 Calls Tryz.prog 315 #[.int .i64 lead,.int .i64 b] w fun e w'=>e= .returned (.tuple #[.int .i32 (Zaa lead b),.bool (decide (Zaa lead b≠0))])∧Below w.heap.size w w':=by
 have hc:=ZpX b;by_cases h0:ZX b<0
 · have e:Zaa lead b=0:=if_pos h0;rw [e];go_enter Tryz.func315,Tryz.ntmps315
   go_wp2_with (first|(go_at_call 347;refine(Zgv b (by omega) _).mono ?_;rintro e w1 ⟨rfl,rfl⟩))
   go_ret2
   exact⟨rfl,Below.refl _ _⟩
 · have e:Zaa lead b=ZaB SP lead (ZX b):=if_neg h0;rw [e];have hcb:=Zgv b (by omega);generalize ZX b=c at*;clear e;go_enter Tryz.func315,Tryz.ntmps315
   go_wp2_with (first|(go_at_call 347;refine(hcb _).mono ?_;rintro e w1 ⟨rfl,rfl⟩)|(go_at_call 348;refine(Zpi _).mono ?_;rintro e w1 ⟨V,rfl,hV,hb1⟩))
   go_loopw [16] (fun i wr=>OneRel lead c w i wr) (fun i _=>11 - (intOf i).toNat)
   case atStart=>exact⟨0,by omega,rfl,rfl,hb1⟩
   case round=>
    obtain⟨k,hk,rfl,heq,hbr⟩:=hrel;by_cases hk11:k<11
    · have hstep:=Lib.hid (ZrT hk11 lead c);obtain⟨hx,hsz⟩:=hex11 hk11;obtain⟨l1,l2,l3,l4,l5,l6,l7⟩:=len11 k hk11;have hsm:=fun j=>@Zs3 k hk11 j;have hi:=hV k hk11;have hat:=fun w=>ZnC (sB k) (Za9 k) hx (c - ZX (Zbd k)) hsz ⟨by omega,by omega⟩ w;have hcell:=fun w=>Cell_b (Zbd k) ⟨by omega,by omega⟩ w;generalize ZcJ k=L at*;generalize Zbd k=S at*;generalize Za9 k=ps at*;generalize sB k=s at*;generalize ZX S=d at*;clear hx;by_cases hlead:L=lead
      · subst hlead;go_wp2_with fail
        obtain⟨c0,c1,c2⟩:=box3 wr 375 (.int .i64 L) (.int .i64 S) (.string s);have hbw:=hbr.alloc hbr.size (.cells #[.int .i64 L,.int .i64 S,.string s] 375);generalize hW:wr.alloc (.cells #[.int .i64 L,.int .i64 S,.string s] 375)=W at*;clear hW hbr;have hw:IntKind.i64.wrap (c - d)=c - d:=IntWalk.i64_in _ (by omega);by_cases hin:0≤c - d∧c - d<ps.length
        · have hpos:=(hsm (c - d).toNat (by omega)).1;have hval:=Lib.hid (show ZaB SP L c=ps.getD (c - d).toNat 0 by rw [heq,hstep.out,if_pos ⟨trivial,hin⟩]);simp only [hin,and_self,if_true,decide_true] at hat;clear heq hstep;go_region_held3 (fun w'=>w'.cell? ⟨wr.heap.size,1,none⟩=some (.int .i64 S)∧w'.cell? ⟨wr.heap.size,2,none⟩=some (.string s)∧Below W.heap.size W w') (first|exact⟨c1,c2,(Below.refl _ _).drew⟩|exact ZjY (by assumption) (by assumption)) (first|(go_at_call 347;refine(hcell _).mono ?_;rintro e w3 ⟨rfl,hb3⟩)|(go_at_call 349;refine(hat _).mono ?_;rintro e w3 ⟨rfl,hb3⟩))
          rename_i hS
          have hB:=hbw.trans (hS.2.2.mono hbw.size);go_wp2_with fail
          go_ret2
          refine⟨?_,hB⟩;have hne:ps.getD (c - d).toNat 0≠0:=by omega
          show Ending.returned (.tuple #[.int .i32 (ps.getD (c - d).toNat 0),.bool true])=_
          rw [hval.out,decide_eq_true hne]
        · have hval:=Lib.hid (show ZaB SP L c=ZaB (SP.drop (k+1)) L c by rw [heq,hstep.out,if_neg (fun h=>hin h.2)]);simp only [if_neg hin,decide_eq_false hin] at hat;clear heq hstep hsm;go_region_held3 (fun w'=>w'.cell? ⟨wr.heap.size,1,none⟩=some (.int .i64 S)∧w'.cell? ⟨wr.heap.size,2,none⟩=some (.string s)∧Below W.heap.size W w') (first|exact⟨c1,c2,(Below.refl _ _).drew⟩|exact ZjY (by assumption) (by assumption)) (first|(go_at_call 347;refine(hcell _).mono ?_;rintro e w3 ⟨rfl,hb3⟩)|(go_at_call 349;refine(hat _).mono ?_;rintro e w3 ⟨rfl,hb3⟩))
          rename_i hS
          have hB:=hbw.trans (hS.2.2.mono hbw.size);go_wp2_with fail
          go_roundw
          case rel=>exact⟨k+1,by omega,by go_num,hval.out,hB⟩
          case measure=>simp [intOf];omega
      · go_wp2_with fail
        go_roundw
        case rel=>exact⟨k+1,by omega,by go_num,by rw [heq,hstep.out,if_neg (fun h=>hlead h.1)],hbr.alloc hbr.size _⟩
        case measure=>simp [intOf];omega
    · have hk2:k=11:=by omega
      subst hk2;have hend:=Lib.hid (ZrS lead c);clear hk11;go_wp2_with fail
      go_ret2
      rw [heq,hend.out];exact⟨rfl,hbr⟩
theorem ZrO {W:World} {b B:Nat} {p q:Int} {k:IntKind} (hb:b<B)(c1:W.cell? ⟨b,1,none⟩=some (.int k p))(c2:W.cell? ⟨b,2,none⟩=some (.int k q)):Zac W B k (some ⟨b,1,none⟩) [p,q]:=by
 refine⟨by simp,fun _=>⟨_,rfl,hb,fun j u hu=> ?_⟩⟩
 match j,hu with
 |0,hu=>simp at hu;rw [←hu];exact c1
 |1,hu=>simp at hu;rw [←hu];exact c2
 |j+2,hu=>simp at hu
def Zbj:List (Int×Int×Int)→Int→Int→List Int
 |[],_,_=>[]
 |t::l,lead,b=>if lead=136∧b=t.1 then [t.2.1,t.2.2] else Zbj l lead b
def ZbW (lead b:Int):List Int:=Zbj TW lead b
def tw1 (k:Nat):Int:=(TW.getD k (0,0,0)).1
def tw2 (k:Nat):Int:=(TW.getD k (0,0,0)).2.1
def tw3 (k:Nat):Int:=(TW.getD k (0,0,0)).2.2
theorem ZtI:∀k,k<4→(98≤tw1 k∧tw1 k≤165)∧(202≤tw2 k∧tw2 k≤234)∧(772≤tw3 k∧tw3 k≤780):=by decide
theorem ZtM {k:Nat} (h:k<4)(lead b:Int):Zbj (TW.drop k) lead b=if lead=136∧b=tw1 k then [tw2 k,tw3 k] else Zbj (TW.drop (k+1)) lead b:=by
 have hl:k<TW.length:=by simpa [TW] using h
 rw [List.drop_eq_getElem_cons hl];simp only [Zbj,tw1,tw2,tw3,List.getD_eq_getElem?_getD,List.getElem?_eq_getElem hl,Option.getD_some]
def TwoRel (lead b:Int)(w0:World)(i:Value)(wr:World):Prop:=∃k:Nat,k≤4∧i= .int .i64 k∧ZbW lead b=Zbj (TW.drop k) lead b∧Below w0.heap.size w0 wr
def Zbe (lead b:Int):List Int:=if Zaa lead b≠0 then [Zaa lead b] else ZbW lead b
theorem ZrR (lead b:Int):Zaa lead b=0∨(128<Zaa lead b∧Zaa lead b≤65535∧(Zaa lead b<55296∨57343<Zaa lead b)):=by
 unfold Zaa;split
 · exact .inl rfl
 · exact ZrQ (fun _ h=>h) lead _
theorem ZlW {lead b:Int} (h:Zaa lead b≠0):Zf (Zaa lead b)=true:=by
 have:=ZrR lead b;rw [Zab];omega
theorem Zpb (lead b:Int)(hl:0≤lead∧lead≤255)(hb:0≤b∧b≤255)(h1:Zaa lead b≠0)(w:World):
 Calls Tryz.prog 259 #[.int .u8 lead,.int .u8 b] w fun e w'=>e= .returned (.tuple #[.string ⟨(Lib.encodeRune (Zaa lead b)).toArray⟩,.bool true])∧Below w.heap.size w w':=by
 have hone:=fun w=>Zjc lead b hl hb w;have hsc:=ZlW h1;rw [decide_eq_true h1] at hone;generalize Zaa lead b=p at*;clear h1;go_enter Tryz.func259,Tryz.ntmps259
 go_wp2_with (first|(go_at_call 315;refine(hone _).mono ?_;rintro e w1 ⟨rfl,hb1⟩)|(go_at_call 260;refine(Zfb p hsc _ _).mono ?_;rintro e w2 ⟨rfl,hb2⟩))
 go_ret2
 exact⟨rfl,hb1.trans ((Zd hb2).mono hb1.size)⟩
theorem Zpa (lead b:Int)(hl:0≤lead∧lead≤255)(hb:0≤b∧b≤255)(h1:Zaa lead b=0)(w:World):
 Calls Tryz.prog 259 #[.int .u8 lead,.int .u8 b] w fun e w'=>e= .returned (.tuple #[.string ⟨(Zc (ZbW lead b)).toArray⟩,.bool (decide (ZbW lead b≠[]))])∧Below w.heap.size w w':=by
 have hone:=fun w=>Zjc lead b hl hb w;rw [h1] at hone;go_enter Tryz.func259,Tryz.ntmps259
 go_wp2_with (first|(go_at_call 315;refine(hone _).mono ?_;rintro e w1 ⟨rfl,hb1⟩)|(go_at_call 316;refine(Zpr _).mono ?_;rintro e w2 ⟨V,rfl,hV,hb2⟩))
 clear hone;go_loopw [25] (fun i wr=>TwoRel lead b w i wr) (fun i _=>4 - (intOf i).toNat)
 case atStart=>exact⟨0,by omega,rfl,rfl,hb1.trans (hb2.mono hb1.size)⟩
 case round=>
  obtain⟨k,hk,rfl,heq,hbr⟩:=hrel;by_cases hk4:k<4
  · have hstep:=Lib.hid (ZtM hk4 lead b);obtain⟨⟨f1,f2⟩,⟨f3,f4⟩,f5,f6⟩:=ZtI k hk4;have hi:=hV k hk4;change∀w,(Instr.index 354 V (.int .i64 k)).run Tryz.prog w= .ok (.agg #[.int .i64 (tw1 k),.int .i32 (tw2 k),.int .i32 (tw3 k)]) w at hi
    have Heq:=Lib.hid heq;clear heq;generalize tw1 k=S at*;generalize tw2 k=p at*;generalize tw3 k=q at*;have hsc:∀x∈[p,q],Zf x=true:=by
     intro x hx;rw [Zab];simp at hx;rcases hx with rfl|rfl<;>omega
    have hbA:=hbr.alloc hbr.size (.cells #[.int .i64 S,.int .i32 p,.int .i32 q] 353);by_cases h136:lead=136
    · by_cases hS:b=S
      · have hval:=Lib.hid (show ZbW lead b=[p,q] by rw [Heq.out,hstep.out,if_pos ⟨h136,hS⟩]);clear hstep Heq;subst h136 hS;go_wp2_with (first|(go_at_call 260;refine(ZjA _ _ [p,q] _ (ZrO (Nat.lt_succ_self _) (box3 _ _ _ _ _).2.1 (box3 _ _ _ _ _).2.2) (by simp) hsc (by simp)).mono ?_;rintro e w3 ⟨rfl,hb3⟩))
        go_ret2
        rw [hval.out];exact⟨rfl,hbA.trans (hb3.mono hbA.size)⟩
      · have hval:=Lib.hid (show ZbW lead b=Zbj (TW.drop (k+1)) lead b by rw [Heq.out,hstep.out,if_neg (fun h=>hS h.2)]);clear hstep Heq;subst h136;go_wp2_with fail
        go_roundw
        case rel=>exact⟨k+1,by omega,by go_num,hval.out,hbA⟩
        case measure=>simp [intOf];omega
    · have hval:=Lib.hid (show ZbW lead b=Zbj (TW.drop (k+1)) lead b by rw [Heq.out,hstep.out,if_neg (fun h=>h136 h.1)]);clear hstep Heq;go_wp2_with fail
      go_roundw
      case rel=>exact⟨k+1,by omega,by go_num,hval.out,hbA⟩
      case measure=>simp [intOf];omega
  · have hk2:k=4:=by omega
    subst hk2;have hend:=Lib.hid (show ZbW lead b=[] from heq);clear hk4 heq;go_wp2_with fail
    go_ret2
    rw [hend.out];exact⟨rfl,hbr⟩
theorem Zo9 (lead b:Int)(hl:0≤lead∧lead≤255)(hb:0≤b∧b≤255)(w:World):
 Calls Tryz.prog 259 #[.int .u8 lead,.int .u8 b] w fun e w'=>e= .returned (.tuple #[.string ⟨(Zc (Zbe lead b)).toArray⟩,.bool (decide (Zbe lead b≠[]))])∧Below w.heap.size w w':=by
 by_cases h1:Zaa lead b=0
 · have e:Zbe lead b=ZbW lead b:=by unfold Zbe;rw [if_neg (by simp [h1])]
   rw [e];exact Zpa lead b hl hb h1 w
 · have e:Zbe lead b=[Zaa lead b]:=by unfold Zbe;rw [if_pos h1]
   have e2:Zc [Zaa lead b]=Lib.encodeRune (Zaa lead b):=by simp [Zc]
   rw [e,e2];exact Zpb lead b hl hb h1 w
end Go.Proofs.YtlglfmbccihopaaGreatDoor
namespace Go.Proofs.YtlglfmbccihopaaGreatDoor
open Go Go.RowKit Go.Maps
def twoV (x y:UInt8):Value:= .agg #[.int .u8 x.toNat,.int .u8 y.toNat]
def ZeN:Value→Option (DataW Unit×List MemPlace)
 | .agg ⟨[.string s]⟩=>some (.lit (.string s.data.toList),[])
 |_=>none
theorem Ztw {v:Value} {z:DataW Unit×List MemPlace} (h:ZeN v=some z):∃s:ByteArray,v= .agg #[.string s]∧z=(.lit (.string s.data.toList),[]):=by
 unfold ZeN at h;split at h
 · injection h with h;exact⟨_,rfl,h.symm⟩
 · cases h
theorem law2u:Keyed Tryz.prog 261:=Keyed.of_law (deep_law_laid (m:=3) (by kernel_rfl) (by decide) (of_decide_eq_true (by kernel_rfl)) (by kernel_rfl) (by kernel_rfl))
theorem u8_wf (x:UInt8):(Lit.int .u8 (x.toNat:Int)).wf=true:=by
 have:=x.toNat_lt;simp [Lit.wf,IntKind.min,IntKind.max,IntKind.bits,IntKind.signed];omega
theorem ZtP (z:UInt8):(Lit.int .u8 (z.toNat:Int)).keyBytes=[z]:=by
 have hz:=z.toNat_lt;have e1:((z.toNat:Int) % 2^IntKind.u8.bits).toNat=z.toNat:=by
  show((z.toNat:Int) % 2^8).toNat=z.toNat
  omega
 show bytesBE 1 ((z.toNat:Int) % 2^IntKind.u8.bits).toNat=[z]
 rw [e1];simp [bytesBE,bytesLE]
theorem Zlh (x y:UInt8):keyOf Tryz.prog 261 (twoV x y)=some (.string [x,y]):=by
 have h1:Tryz.prog.keyType 261=true:=by kernel_rfl
 have h3:Tryz.prog.cellsOf 261=2:=by kernel_rfl
 have h4:Tryz.prog.cellsOf 5=1:=by kernel_rfl
 have h5:1≤Tryz.prog.types.size:=of_decide_eq_true (by kernel_rfl);have h2:(twoV x y).formed Tryz.prog 261=true:=by
  simp [twoV,Value.formed,Tryz.underlying261,h3]
 have hk:∀m,Tryz.prog.keyLits (m+1+1) 261 [.int .u8 x.toNat,.int .u8 y.toNat]=some [.int .u8 x.toNat,.int .u8 y.toNat]:=by
  intro m;have hi:∀z:UInt8,Tryz.prog.keyLits (m+1) 5 [.int .u8 z.toNat]=some [.int .u8 z.toNat]:=by
   intro z;rw [Program.keyLits.eq_def];simp only [Tryz.underlying5,u8_wf,and_self,if_true]
  rw [Program.keyLits.eq_def];simp only [Tryz.underlying261,h3,h4,List.length_cons,List.length_nil,if_true];simp only [List.range_succ,List.range_zero,List.nil_append,List.cons_append,List.mapM_cons,List.mapM_nil];simp [hi]
 obtain⟨m,hm⟩:∃m,Tryz.prog.types.size=m+1:=⟨Tryz.prog.types.size - 1,by omega⟩
 unfold keyOf;rw [Tryz.underlying261];simp only [h1,Bool.true_and];rw [if_pos h2,hm];show(Tryz.prog.keyLits (m+1+1) 261 [.int .u8 x.toNat,.int .u8 y.toNat]).map _=_
 rw [hk m,Option.map_some];simp only [keyBytes,List.flatMap_cons,List.flatMap_nil,ZtP,List.append_nil,List.cons_append,List.nil_append]
def MpT (w:World)(b n:Nat)(M:UInt8→UInt8→Option (List UInt8)):Prop:=∃D:DataW Unit,w.ownsMap Tryz.prog 261 ZeN b n D∧(∀x y,(M x y).isSome=Maps.has D (.string [x,y]))∧∀x y t,M x y=some t→∀z,D.atKey (.string [x,y]) z= .lit (.string t)
theorem MpT.made (w:World):MpT (w.alloc (.map #[] 0)) w.heap.size 0 (fun _ _=>none):=⟨.map [],World.ownsMap_made _ _ _ _,fun _ _=>rfl,fun _ _ _ h=>by cases h⟩
theorem MpT.kept {w w':World} {b n:Nat} {M:UInt8→UInt8→Option (List UInt8)} {row:Option Nat} (h:MpT w b n M)(hg:w.grownBy w' row)(hne:some b≠row):MpT w' b n M:=by
 obtain⟨D,h1,h2⟩:=h;exact⟨D,h1.kept hg hne,h2⟩
theorem MpT.below {w w':World} {b n:Nat} {M:UInt8→UInt8→Option (List UInt8)} (h:MpT w b n M)(hb:Below w.heap.size w w'):MpT w' b n M:=
 h.kept (row:=none) ⟨hb.os,hb.tape,hb.output,hb.size,fun k hk _=>hb.block k hk⟩ (by simp)
theorem zeroT (w:World):(zeroValue 263).run Tryz.prog w= .ok (.agg #[.string ⟨#[]⟩]) w:=by kernel_rfl
section
variable {ops:Array Oper} {rest:List Oper} {o:Oper} {a:Act} {Q:Exit→Act→World→Prop} {w:World} {b n:Nat} {M:UInt8→UInt8→Option (List UInt8)}
theorem Zlz (hg:o.guard=none)(m x:Operand)(hop:o.op=Op.lookup 260 m x true)(h:MpT w b n M)(hm:a.eval m= .map (some b))(p q:UInt8)(hx:a.eval x= .agg #[.int .u8 p.toNat,.int .u8 q.toNat])
 (hK:∀t:List UInt8,(∀k,M p q=some k→t=k)→wpList Tryz.prog ops Q rest (a.put o.dst (.tuple #[.agg #[.string (B t)],.bool (M p q).isSome])) w):
 wpList Tryz.prog ops Q (o::rest) a w:=by
 obtain⟨D,h1,h2,h3⟩:=h;refine wpList_lookup_own_ok w hg m x 260 hop 261 263 law2u Tryz.underlying260 ZeN (zeroT _) (.lit (.string [])) [] rfl b n D hm h1 _ (.string [p,q]) hx (Zlh p q) ?_;intro v ps hv;rw [←h2];obtain⟨s,rfl,hz⟩:=Ztw hv;have:=hK s.data.toList (fun k hk=>by
  have e:=h3 p q k hk (.lit (.string []));rw [Prod.mk.injEq] at hz;rw [hz.1] at e;simpa using e)
 rw [←ZcY] at this;exact this
theorem ZlA (hg:o.guard=none)(m x v:Operand)(hop:o.op=Op.mapUpdate 260 m x v)(h:MpT w b n M)(hm:a.eval m= .map (some b))(p q:UInt8)(hx:a.eval x= .agg #[.int .u8 p.toNat,.int .u8 q.toNat])(t:List UInt8)(hv:a.eval v= .agg #[.string (B t)])(hn:n≤10000000)
 (hK:∀w',MpT w' b (n+1) (fun x y=>if x=p∧y=q then some t else M x y)→w.grownBy w' (some b)→wpList Tryz.prog ops Q rest (a.put o.dst undef) w'):
 wpList Tryz.prog ops Q (o::rest) a w:=by
 obtain⟨D,h1,h2,h3⟩:=h;have hr:ZeN (.agg #[.string (B t)])=some (.lit (.string t),[]):=by
  show some ((.lit (.string (B t).data.toList):DataW Unit),([]:List MemPlace))=_
  rw [Zbn]
 refine wpList_mapUpdate_own _ hg m x v 260 hop 261 263 law2u Tryz.underlying260 _ b n D hm h1 (by unfold maxLen;omega) _ _ (.string [p,q]) hx hv (Zlh p q) _ [] hr ?_;intro w' h4 h5;have hD:IsMap D:=by obtain⟨es,cl,_,_,_,rfl⟩:=h1;exact⟨_,rfl⟩
 refine hK w' ⟨_,h4,fun x y=> ?_,fun x y k hk z=> ?_⟩ h5
 · show(if x=p∧y=q then some t else M x y).isSome=_
   by_cases e:x=p∧y=q
   · obtain⟨rfl,rfl⟩:=e;rw [if_pos ⟨rfl,rfl⟩,has_put_same hD (show WideAt.IsKeyLit (.string [x,y]) from trivial)];rfl
   · rw [if_neg e,h2,has_put_other (by simpa using e)]
 · have hk:(if x=p∧y=q then some t else M x y)=some k:=hk;by_cases e:x=p∧y=q
   · obtain⟨rfl,rfl⟩:=e;rw [if_pos ⟨rfl,rfl⟩] at hk;injection hk with hk;subst hk;exact atKey_put_same hD (show WideAt.IsKeyLit (.string [x,y]) from trivial) _ _
   · rw [if_neg e] at hk;rw [atKey_put_other (by simpa using e)];exact h3 x y k hk z
end
end Go.Proofs.YtlglfmbccihopaaGreatDoor
namespace Go.Proofs.YtlglfmbccihopaaGreatDoor
open Go Go.RowKit
theorem Zdk {k:IntKind} {a b:Int} {x y:Bool} (h:a=b)(h2:x=y):Ending.returned (.tuple #[.int k a,.bool x])= .returned (.tuple #[.int k b,.bool y]):=by rw [h,h2]
def v0 (z:Int):Int:=if z= -2 then 0 else z
def g0 (z:Int):Bool:=decide (z≠ -2)
theorem Ziy:v0 (-2)=0:=rfl
theorem Zho:g0 (-2)=false:=rfl
theorem Ziz {z:Int} (h:z≠ -2):v0 z=z:=if_neg h
theorem Zhp {z:Int} (h:z≠ -2):g0 z=true:=by simp [g0,h]
theorem Zoi (c:Int)(h0:0≤c∧c≤1000)(w:World):
 Calls Tryz.prog 310 #[.int .i64 c] w fun e w'=>e= .returned (.tuple #[.int .i64 (v0 (Zbt c)),.bool (g0 (Zbt c))])∧w=w':=by
 by_cases h1:c=1
 · subst h1;go_enter Tryz.func310,Tryz.ntmps310
   go_wp2_with fail
   go_ret2
   exact⟨rfl,rfl⟩
 have hb:(c==1)=false:=by simpa using h1
 have a0:=h0.1;have a1:=h0.2;clear h0;obtain⟨z,hz⟩:∃z,Zbt c=z:=⟨_,rfl⟩
 rw [hz];have HZ:=Lib.hid hz;clear hz;go_enter Tryz.func310,Tryz.ntmps310
 go_wp2
 all_goals go_ret2
 all_goals refine⟨Zdk ?_ ?_,rfl⟩
 all_goals (have hz:=HZ.out;clear HZ;unfold Zbt at hz;(repeat' split at hz)<;>subst hz<;>first|rfl|(exfalso;omega)|(unfold v0;split<;>omega)|(unfold g0;simp;omega))
theorem Zoj (c:Int)(h0:0≤c∧c≤1000)(w:World):
 Calls Tryz.prog 311 #[.int .i64 c] w fun e w'=>e= .returned (.tuple #[.int .i64 (v0 (Zbu c)),.bool (g0 (Zbu c))])∧w=w':=by
 by_cases h1:c=2
 · subst h1;go_enter Tryz.func311,Tryz.ntmps311
   go_wp2_with fail
   go_ret2
   exact⟨rfl,rfl⟩
 have hb:(c==2)=false:=by simpa using h1
 have a0:=h0.1;have a1:=h0.2;clear h0;obtain⟨z,hz⟩:∃z,Zbu c=z:=⟨_,rfl⟩
 rw [hz];have HZ:=Lib.hid hz;clear hz;go_enter Tryz.func311,Tryz.ntmps311
 go_wp2
 all_goals go_ret2
 all_goals refine⟨Zdk ?_ ?_,rfl⟩
 all_goals (have hz:=HZ.out;clear HZ;unfold Zbu at hz;(repeat' split at hz)<;>subst hz<;>first|rfl|(exfalso;omega)|(unfold v0;split<;>omega)|(unfold g0;simp;omega))
theorem Zoh (c:Int)(h0:0≤c∧c≤1000)(w:World):
 Calls Tryz.prog 312 #[.int .i64 c] w fun e w'=>e= .returned (.tuple #[.int .i64 (v0 (Za7 c)),.bool (g0 (Za7 c))])∧w=w':=by
 have a0:=h0.1;have a1:=h0.2;clear h0;obtain⟨z,hz⟩:∃z,Za7 c=z:=⟨_,rfl⟩
 rw [hz];have HZ:=Lib.hid hz;clear hz;go_enter Tryz.func312,Tryz.ntmps312
 go_wp2
 all_goals go_ret2
 all_goals refine⟨Zdk ?_ ?_,rfl⟩
 all_goals (have hz:=HZ.out;clear HZ;unfold Za7 at hz;(repeat' split at hz)<;>subst hz<;>first|rfl|(exfalso;omega)|(unfold v0;split<;>omega)|(unfold g0;simp;omega))
theorem Zol (i m f:Int)(hi:0≤i∧i≤18)(hm:0≤m∧m≤20)(hf:0≤f∧f≤27)(w:World):
 Calls Tryz.prog 313 #[.int .i64 i,.int .i64 m,.int .i64 f] w fun e w'=>e= .returned (.tuple #[.int .i32 (sylZ i m f),.bool true])∧w=w':=by
 obtain⟨i0,i1⟩:=hi;obtain⟨m0,m1⟩:=hm;obtain⟨f0,f1⟩:=hf;have d1:decide (i<0)=false:=by simp;omega
 have d2:decide ((19:Int)≤i)=false:=by simp;omega
 have d3:decide (m<0)=false:=by simp;omega
 have d4:decide ((21:Int)≤m)=false:=by simp;omega
 have d5:decide (f<0)=false:=by simp;omega
 have d6:decide ((28:Int)≤f)=false:=by simp;omega
 go_enter Tryz.func313,Tryz.ntmps313
 go_wp2_with fail
 go_ret2
 exact⟨rfl,rfl⟩
theorem idx_hi {k:Nat} (hk:k<256):Lib.indexByte Zcm (UInt8.ofNat k)<30:=by
 have h:(List.range 256).all (fun k=>decide (Lib.indexByte Zcm (UInt8.ofNat k)<30))=true:=by decide+kernel
 simpa using List.all_eq_true.1 h k (List.mem_range.2 hk)
theorem Zi4 (k:Nat)(hk:k<256)(w:World):
 Calls Tryz.prog 314 #[.int .u8 (k:Int)] w fun e w'=>e= .returned (.tuple #[.int .i32 (ZaA k),.bool (decide (ZaA k≠0))])∧Below w.heap.size w w':=by
 have hb0:=Lib.indexByte_ge Zcm (UInt8.ofNat k);have hb1':=idx_hi hk;have hu:(UInt8.ofNat k).toNat=k:=by simp;omega
 have hix:∀w,Calls Tryz.prog 233 #[.string ⟨#[65,66,100,67,102,103,68,69,70,106,107,108,109,110,111,112,71,72,73,115,74,75,76,77,78,79,80,81,82,83]⟩,.int .u8 (k:Int)] w fun e w'=>e= .returned (.int .i64 (Lib.indexByte Zcm (UInt8.ofNat k)))∧Below w.heap.size w w':=by
  intro w;refine(Tryz.strings_IndexByte _ _ w).mono ?_;rintro e w' ⟨rfl,rfl⟩;refine⟨ZaC ?_,Below.refl _ _⟩;have e1:((k:Int)).toNat.toUInt8=UInt8.ofNat k:=by simp [Nat.toUInt8]
  rw [e1];rfl
 have hc:ZaA k=if Lib.indexByte Zcm (UInt8.ofNat k)<0 then 0 else 12593+Lib.indexByte Zcm (UInt8.ofNat k):=rfl
 generalize Lib.indexByte Zcm (UInt8.ofNat k)=j at*;by_cases h0:j<0
 · have e:ZaA k=0:=by rw [hc,if_pos h0]
   have E:=Lib.hid e;clear hc e;go_enter Tryz.func314,Tryz.ntmps314
   go_wp2_with (go_at_call 233;refine(hix _).mono ?_;rintro e w1 ⟨rfl,hb1⟩)
   go_ret2
   rw [E.out];exact⟨rfl,hb1⟩
 · have e:ZaA k=12593+j:=by rw [hc,if_neg h0]
   have E:=Lib.hid e;have j0:0≤j:=by omega
   have j1:j≤30:=by omega
   clear hc e;go_enter Tryz.func314,Tryz.ntmps314
   go_wp2_with (go_at_call 233;refine(hix _).mono ?_;rintro e w1 ⟨rfl,hb1⟩)
   go_ret2
   rw [E.out];exact⟨Zdk rfl (by simp;omega),hb1⟩
theorem Zhz {x:Int} (h0:0≤x)(h1:x≤65535):bits .and .i64 x 31=x % 32:=
 bits_mask .i64 63 (by decide) (fun n h0 h1=>by simp [IntKind.wrap,IntKind.bits,IntKind.signed];omega) 5 (by decide) x h0 (by omega)
theorem Zok (a b:UInt8)(w:World):
 Calls Tryz.prog 258 #[.int .u8 a.toNat,.int .u8 b.toNat] w fun e w'=>e= .returned (.tuple #[.int .i32 (Z6 ((a.toNat*256+b.toNat:Nat):Int)),.bool (decide (Z6 ((a.toNat*256+b.toNat:Nat):Int)≠0))])∧Below w.heap.size w w':=by
 have ha:=a.toNat_lt;have hb:=b.toNat_lt;generalize a.toNat=x at*;generalize b.toNat=y at*;have hor:bits .or .i64 ((x:Int)*256) y=((x*256+y:Nat):Int):=by
  rw [ZdI (by omega) (by omega) (by omega) (by omega)];omega
 have hN:0≤((x*256+y:Nat):Int)∧((x*256+y:Nat):Int)≤65535:=by omega
 generalize ((x*256+y:Nat):Int)=N at*;obtain⟨N0,N1⟩:=hN;have h1:bits .and .i64 (N / 1024) 31=N / 1024 % 32:=Zhz (by omega) (by omega);have h2:bits .and .i64 (N / 32) 31=N / 32 % 32:=Zhz (by omega) (by omega);have h3:bits .and .i64 N 31=N % 32:=Zhz (by omega) (by omega);have r1:0≤N / 1024 % 32∧N / 1024 % 32≤1000:=by omega
 have r2:0≤N / 32 % 32∧N / 32 % 32≤1000:=by omega
 have r3:0≤N % 32∧N % 32≤1000:=by omega
 have ci:=fun w=>Zoi _ r1 w;have cm:=fun w=>Zoj _ r2 w;have cf:=fun w=>Zoh _ r3 w;have bi:=Zla (N / 1024 % 32);have bm:=Zlv (N / 32 % 32);have bf:=ZkK (N % 32);have hJ:Z6 N=if N<32768∨Zbt (N / 1024 % 32)= -2∨Zbu (N / 32 % 32)= -2∨Za7 (N % 32)= -2 then 0 else ZeF (Zbt (N / 1024 % 32)) (Zbu (N / 32 % 32)) (Za7 (N % 32)):=rfl
 have hx:(x:Int)≤255:=by omega
 have hy:(y:Int)≤255:=by omega
 clear r1 r2 r3 ha hb;generalize N / 1024 % 32=c1 at*;generalize N / 32 % 32=c2 at*;generalize N % 32=c3 at*;generalize Zbt c1=i at*;generalize Zbu c2=m at*;generalize Za7 c3=f at*;generalize Z6 N=J at*;by_cases hA:N<32768
 · have E:J=0:=by rw [hJ,if_pos (.inl hA)]
   subst E;have e0:(N / 32768==0)=true:=by simp;omega
   clear hJ;go_enter Tryz.func258,Tryz.ntmps258
   go_wp2_with (first|(go_at_call 310;refine(ci _).mono ?_;rintro e w' ⟨rfl,rfl⟩)|(go_at_call 311;refine(cm _).mono ?_;rintro e w' ⟨rfl,rfl⟩)|(go_at_call 312;refine(cf _).mono ?_;rintro e w' ⟨rfl,rfl⟩))
   go_ret2
   exact⟨rfl,Below.refl _ _⟩
 have eN:(N / 32768==0)=false:=by rw [beq_eq_false_iff_ne];omega
 by_cases hB:i= -2
 · have E:J=0:=by rw [hJ,if_pos (.inr (.inl hB))]
   subst E hB;clear hJ;rw [Ziy,Zho] at ci;go_enter Tryz.func258,Tryz.ntmps258
   go_wp2_with (first|(go_at_call 310;refine(ci _).mono ?_;rintro e w' ⟨rfl,rfl⟩)|(go_at_call 311;refine(cm _).mono ?_;rintro e w' ⟨rfl,rfl⟩)|(go_at_call 312;refine(cf _).mono ?_;rintro e w' ⟨rfl,rfl⟩))
   go_ret2
   exact⟨rfl,Below.refl _ _⟩
 rw [Ziz hB,Zhp hB] at ci;by_cases hC:m= -2
 · have E:J=0:=by rw [hJ,if_pos (.inr (.inr (.inl hC)))]
   subst E hC;clear hJ;rw [Ziy,Zho] at cm;go_enter Tryz.func258,Tryz.ntmps258
   go_wp2_with (first|(go_at_call 310;refine(ci _).mono ?_;rintro e w' ⟨rfl,rfl⟩)|(go_at_call 311;refine(cm _).mono ?_;rintro e w' ⟨rfl,rfl⟩)|(go_at_call 312;refine(cf _).mono ?_;rintro e w' ⟨rfl,rfl⟩))
   go_ret2
   exact⟨rfl,Below.refl _ _⟩
 rw [Ziz hC,Zhp hC] at cm;by_cases hD:f= -2
 · have E:J=0:=by rw [hJ,if_pos (.inr (.inr (.inr hD)))]
   subst E hD;clear hJ;rw [Ziy,Zho] at cf;go_enter Tryz.func258,Tryz.ntmps258
   go_wp2_with (first|(go_at_call 310;refine(ci _).mono ?_;rintro e w' ⟨rfl,rfl⟩)|(go_at_call 311;refine(cm _).mono ?_;rintro e w' ⟨rfl,rfl⟩)|(go_at_call 312;refine(cf _).mono ?_;rintro e w' ⟨rfl,rfl⟩))
   go_ret2
   exact⟨rfl,Below.refl _ _⟩
 rw [Ziz hD,Zhp hD] at cf;have f0:0≤f∧f≤27:=by omega
 have hJ2:J=ZeF i m f:=by rw [hJ,if_neg (by omega)]
 clear hJ bf;unfold ZeF at hJ2;by_cases hi:i= -1
 · subst hi;by_cases hm:m= -1
   · subst hm;by_cases hf:f=0
     · subst hf;have E:J=0:=by rw [hJ2];rfl
       subst E;clear hJ2;have e1:decide ((-1:Int)= -1)=true:=rfl;go_enter Tryz.func258,Tryz.ntmps258
       go_wp2_with (first|(go_at_call 310;refine(ci _).mono ?_;rintro e w' ⟨rfl,rfl⟩)|(go_at_call 311;refine(cm _).mono ?_;rintro e w' ⟨rfl,rfl⟩)|(go_at_call 312;refine(cf _).mono ?_;rintro e w' ⟨rfl,rfl⟩))
       go_ret2
       exact⟨rfl,Below.refl _ _⟩
     · have E:J=ZaA (97+f.toNat):=by rw [hJ2,if_neg (by omega),if_neg (by omega),if_neg (by omega),if_pos ⟨rfl,rfl,hf⟩]
       have ef:(f==0)=false:=by simpa using hf
       have ef2:(f !=0)=true:=by simpa using hf
       obtain⟨k,rfl⟩:∃k:Nat,f=k:=⟨f.toNat,by omega⟩
       have hk:((97+k:Nat):Int)=97+(k:Int):=by omega
       have hco:=fun w=>Zi4 (97+k) (by omega) w;rw [Int.toNat_natCast] at E;rw [←E,hk] at hco;clear hJ2 E hk;have f1:=f0.2;clear f0;go_enter Tryz.func258,Tryz.ntmps258
       go_wp2_with (first|(go_at_call 310;refine(ci _).mono ?_;rintro e w' ⟨rfl,rfl⟩)|(go_at_call 311;refine(cm _).mono ?_;rintro e w' ⟨rfl,rfl⟩)|(go_at_call 312;refine(cf _).mono ?_;rintro e w' ⟨rfl,rfl⟩)|(go_at_call 314;refine(hco _).mono ?_;rintro e w1 ⟨rfl,hb1⟩))
       go_ret2
       exact⟨Zdk rfl (by simp),hb1⟩
   · have m0:0≤m:=by omega
     have m1:=bm.2;have em:(m== -1)=false:=by simpa using hm
     have em2:(m != -1)=true:=by simpa using hm
     by_cases hf:f=0
     · subst hf;have E:J=12623+m:=by rw [hJ2,if_neg (by omega),if_pos ⟨rfl,hm,rfl⟩]
       have E0:decide (J≠0)=true:=by simp;omega
       rw [E0];subst E;clear hJ2 bm f0 hm E0;have e1:decide ((-1:Int)= -1)=true:=rfl;go_enter Tryz.func258,Tryz.ntmps258
       go_wp2_with (first|(go_at_call 310;refine(ci _).mono ?_;rintro e w' ⟨rfl,rfl⟩)|(go_at_call 311;refine(cm _).mono ?_;rintro e w' ⟨rfl,rfl⟩)|(go_at_call 312;refine(cf _).mono ?_;rintro e w' ⟨rfl,rfl⟩))
       go_ret2
       exact⟨rfl,Below.refl _ _⟩
     · have E:J=0:=by rw [hJ2,if_neg (by omega),if_neg (by omega),if_neg (by omega),if_neg (by omega)]
       subst E;have ef:(f==0)=false:=by simpa using hf
       have ef2:(f !=0)=true:=by simpa using hf
       clear hJ2 bm f0 hm;have e1:decide ((-1:Int)= -1)=true:=rfl;go_enter Tryz.func258,Tryz.ntmps258
       go_wp2_with (first|(go_at_call 310;refine(ci _).mono ?_;rintro e w' ⟨rfl,rfl⟩)|(go_at_call 311;refine(cm _).mono ?_;rintro e w' ⟨rfl,rfl⟩)|(go_at_call 312;refine(cf _).mono ?_;rintro e w' ⟨rfl,rfl⟩))
       go_ret2
       exact⟨rfl,Below.refl _ _⟩
 · have i0:0≤i:=by omega
   have i1:=bi.2;have ei:(i== -1)=false:=by simpa using hi
   have ei2:(i != -1)=true:=by simpa using hi
   by_cases hm:m= -1
   · subst hm;by_cases hf:f=0
     · subst hf;have E:J=ZaA (65+i.toNat):=by rw [hJ2,if_neg (by omega),if_neg (by omega),if_pos ⟨hi,rfl,rfl⟩]
       obtain⟨k,rfl⟩:∃k:Nat,i=k:=⟨i.toNat,by omega⟩
       have hk:((65+k:Nat):Int)=65+(k:Int):=by omega
       have hco:=fun w=>Zi4 (65+k) (by omega) w;rw [Int.toNat_natCast] at E;rw [←E,hk] at hco;clear hJ2 E hk hi bi;clear f0;go_enter Tryz.func258,Tryz.ntmps258
       go_wp2_with (first|(go_at_call 310;refine(ci _).mono ?_;rintro e w' ⟨rfl,rfl⟩)|(go_at_call 311;refine(cm _).mono ?_;rintro e w' ⟨rfl,rfl⟩)|(go_at_call 312;refine(cf _).mono ?_;rintro e w' ⟨rfl,rfl⟩)|(go_at_call 314;refine(hco _).mono ?_;rintro e w1 ⟨rfl,hb1⟩))
       go_ret2
       exact⟨Zdk rfl (by simp),hb1⟩
     · have E:J=0:=by rw [hJ2,if_neg (by omega),if_neg (by omega),if_neg (by omega),if_neg (by omega)]
       subst E;have ef:(f==0)=false:=by simpa using hf
       have ef2:(f !=0)=true:=by simpa using hf
       clear hJ2 bi f0 hi;have e1:decide ((-1:Int)= -1)=true:=rfl;go_enter Tryz.func258,Tryz.ntmps258
       go_wp2_with (first|(go_at_call 310;refine(ci _).mono ?_;rintro e w' ⟨rfl,rfl⟩)|(go_at_call 311;refine(cm _).mono ?_;rintro e w' ⟨rfl,rfl⟩)|(go_at_call 312;refine(cf _).mono ?_;rintro e w' ⟨rfl,rfl⟩))
       go_ret2
       exact⟨rfl,Below.refl _ _⟩
   · have E:J=sylZ i m f:=by rw [hJ2,if_pos ⟨hi,hm⟩]
     have m0:0≤m:=by omega
     have m1:=bm.2;have em:(m== -1)=false:=by simpa using hm
     have em2:(m != -1)=true:=by simpa using hm
     have hsy:=fun w=>Zol i m f (by omega) (by omega) f0 w;have E0:decide (J≠0)=true:=by rw [E];unfold sylZ;simp;omega
     rw [E0];rw [←E] at hsy;clear hJ2 E bi bm f0 hm hi E0;have e1:decide ((-1:Int)= -1)=true:=rfl;go_enter Tryz.func258,Tryz.ntmps258
     go_wp2_with (first|(go_at_call 310;refine(ci _).mono ?_;rintro e w' ⟨rfl,rfl⟩)|(go_at_call 311;refine(cm _).mono ?_;rintro e w' ⟨rfl,rfl⟩)|(go_at_call 312;refine(cf _).mono ?_;rintro e w' ⟨rfl,rfl⟩)|(go_at_call 313;refine(hsy _).mono ?_;rintro e w1 ⟨rfl,rfl⟩))
     go_ret2
     exact⟨rfl,Below.refl _ _⟩
theorem Zk9 {x y:Int} (hy₀:0≤y)(hy:y<256)(hx₀:0≤x)(hx:x<8388608):bits .or .i32 (x*256) y=x*256+y:=
 bits_join .i32 31 (by decide) (fun n h0 h1=>by simp [IntKind.wrap,IntKind.bits,IntKind.signed];omega) 8 (x*256) y (by omega) (by omega) (by omega) hy₀ hy (by omega)
theorem ZjB (s:ByteArray)(i:Nat)(hi:i+1<s.size)(hs:s.size≤140737488355328)(big:Bool)(w:World):
 Calls Tryz.prog 225 #[.string s,.int .i64 i,.bool big] w fun e w'=>e= .returned (.int .i32 (Zl big s[i] s[i+1]))∧Below w.heap.size w w':=by
 have h0:=(s[i]).toNat_lt;have h1:=(s[i+1]).toNat_lt;have hi0:i<s.size:=by omega
 have hA:0≤(i:Int)+1∧(i:Int)+1<(s.size:Int):=by omega
 have hA1:0≤(i:Int)+1:=by omega
 have hA2:(i:Int)+1<(s.size:Int):=by omega
 have hA3:((i:Int)+1).toNat=i+1:=by omega
 go_enter Tryz.func225,Tryz.ntmps225
 cases big
 · go_wp2_with fail
   go_region
   go_wp2_with fail
   go_ret
   exact⟨ZaC (by rw [Zk9 (by omega) (by omega) (by omega) (by omega)];simp [Zl]),(Below.refl _ _).drew⟩
 · go_wp2_with fail
   go_region
   go_wp2_with fail
   go_ret
   exact⟨ZaC (by rw [Zk9 (by omega) (by omega) (by omega) (by omega)];simp [Zl]),(Below.refl _ _).drew⟩
theorem Zkr (s:ByteArray)(i:Nat)(hi:i+1<s.size):s.data.toList.drop i=s[i]::s[i+1]::s.data.toList.drop (i+2):=by
 have h0:i<s.data.toList.length:=by simpa using (by omega:i<s.size)
 have h1:i+1<s.data.toList.length:=by simpa using hi
 rw [List.drop_eq_getElem_cons h0,List.drop_eq_getElem_cons h1];rfl
theorem ZmV (s:ByteArray)(i:Nat):(s.data.toList.drop i).length=s.size - i:=by simp
theorem Zt6 {big:Bool} {a b:UInt8} {r:List UInt8} (h:Zl big a b<55296∨57344≤Zl big a b):Zm big (a::b::r)=(Zl big a b,2):=by
 simp only [Zm,if_pos h]
theorem Zt7 {big:Bool} {a b:UInt8} {r:List UInt8} (h:¬(Zl big a b<55296∨57344≤Zl big a b))(h2:56320≤Zl big a b):Zm big (a::b::r)=(0,0):=by
 simp only [Zm,if_neg h,if_pos h2]
theorem Zua {big:Bool} {a b:UInt8} {r:List UInt8} (h:¬(Zl big a b<55296∨57344≤Zl big a b))(h2:¬56320≤Zl big a b)(hr:r.length<2):Zm big (a::b::r)=(0,0):=by
 match r,hr with
 |[],_=>simp only [Zm,if_neg h,if_neg h2]
 |[_],_=>simp only [Zm,if_neg h,if_neg h2]
 |_::_::_,hr=>simp at hr;omega
theorem Zt8 {big:Bool} {a b c d:UInt8} {r:List UInt8} (h:¬(Zl big a b<55296∨57344≤Zl big a b))(h2:¬56320≤Zl big a b)(h3:Zl big c d<56320∨57344≤Zl big c d):Zm big (a::b::c::d::r)=(0,0):=by
 simp only [Zm,if_neg h,if_neg h2,if_pos h3]
theorem Zt5 {big:Bool} {a b c d:UInt8} {r:List UInt8} (h:¬(Zl big a b<55296∨57344≤Zl big a b))(h2:¬56320≤Zl big a b)(h3:¬(Zl big c d<56320∨57344≤Zl big c d)):
 Zm big (a::b::c::d::r)=(65536+(Zl big a b - 55296)*1024+(Zl big c d - 56320),4):=by
 simp only [Zm,if_neg h,if_neg h2,if_neg h3]
theorem Zju (s:ByteArray)(i:Nat)(hi:i≤s.size)(hs:s.size≤140737488355328)(big:Bool)(w:World):
 Calls Tryz.prog 147 #[.string s,.int .i64 i,.bool big] w fun e w'=>e= .returned (.tuple #[.int .i32 (Zm big (s.data.toList.drop i)).1,.int .i64 (Zm big (s.data.toList.drop i)).2])∧Below w.heap.size w w':=by
 have hl:=ZmV s i;by_cases h2:i+1<s.size
 · have hd:=Zkr s i h2;have u1:=ZjB s i h2 hs big;have hr:=Zgk big s[i] s[i+1];have lo:=@Zt6 big s[i] s[i+1] (s.data.toList.drop (i+2));have mi:=@Zt7 big s[i] s[i+1] (s.data.toList.drop (i+2));have sh:=@Zua big s[i] s[i+1] (s.data.toList.drop (i+2));have no:=fun c d=>@Zt8 big s[i] s[i+1] c d (s.data.toList.drop (i+2+2));have fo:=fun c d=>@Zt5 big s[i] s[i+1] c d (s.data.toList.drop (i+2+2));have hl2:=ZmV s (i+2);generalize Zl big s[i] s[i+1]=u at*;by_cases c1:u<55296
   · have hw:Hid (Zm big (s.data.toList.drop i)=(u,2)):=by rw [hd];exact lo (.inl c1)
     rw [hw.out];clear hl hd lo mi sh no fo hl2;go_enter Tryz.func147,Tryz.ntmps147
     go_wp2_with (go_at_call 225;refine(u1 _).mono ?_;rintro e w1 ⟨rfl,hb1⟩)
     go_ret2
     exact⟨rfl,hb1⟩
   by_cases c2:57344≤u
   · have hw:Hid (Zm big (s.data.toList.drop i)=(u,2)):=by rw [hd];exact lo (.inr c2)
     rw [hw.out];clear hl hd lo mi sh no fo hl2;go_enter Tryz.func147,Tryz.ntmps147
     go_wp2_with (go_at_call 225;refine(u1 _).mono ?_;rintro e w1 ⟨rfl,hb1⟩)
     go_ret2
     exact⟨rfl,hb1⟩
   have hn:¬(u<55296∨57344≤u):=by omega
   by_cases c3:56320≤u
   · have hw:Hid (Zm big (s.data.toList.drop i)=(0,0)):=by rw [hd];exact mi hn c3
     rw [hw.out];clear hl hd lo mi sh no fo hl2 hn;go_enter Tryz.func147,Tryz.ntmps147
     go_wp2_with (go_at_call 225;refine(u1 _).mono ?_;rintro e w1 ⟨rfl,hb1⟩)
     go_ret2
     exact⟨rfl,hb1⟩
   by_cases c4:s.size<i+4
   · have hw:Hid (Zm big (s.data.toList.drop i)=(0,0)):=by rw [hd];exact sh hn c3 (by omega)
     rw [hw.out];clear hl hd lo mi sh no fo hl2 hn;go_enter Tryz.func147,Tryz.ntmps147
     go_wp2_with (go_at_call 225;refine(u1 _).mono ?_;rintro e w1 ⟨rfl,hb1⟩)
     go_ret2
     exact⟨rfl,hb1⟩
   have h4:i+2+1<s.size:=by omega
   have hd2:=Zkr s (i+2) h4;have u2:=ZjB s (i+2) h4 hs big;rw [show(((i+2:Nat):Int))=(i:Int)+2 from by omega] at u2;have hr2:=Zgk big s[i+2] s[i+2+1];have no:=no s[i+2] s[i+2+1];have fo:=fo s[i+2] s[i+2+1];generalize Zl big s[i+2] s[i+2+1]=v at*;by_cases c5:v<56320
   · have hw:Hid (Zm big (s.data.toList.drop i)=(0,0)):=by rw [hd,hd2];exact no hn c3 (.inl c5)
     rw [hw.out];clear hl hd lo mi sh no fo hl2 hn hd2;go_enter Tryz.func147,Tryz.ntmps147
     go_wp2_with (go_at_call 225;first|(refine(u1 _).mono ?_;rintro e w1 ⟨rfl,hb1⟩;have hz1:=hb1.size;clear u1)|(refine(u2 _).mono ?_;rintro e w2 ⟨rfl,hb2⟩))
     go_ret2
     exact⟨rfl,hb1.trans (hb2.mono hz1)⟩
   by_cases c6:57344≤v
   · have hw:Hid (Zm big (s.data.toList.drop i)=(0,0)):=by rw [hd,hd2];exact no hn c3 (.inr c6)
     rw [hw.out];clear hl hd lo mi sh no fo hl2 hn hd2;go_enter Tryz.func147,Tryz.ntmps147
     go_wp2_with (go_at_call 225;first|(refine(u1 _).mono ?_;rintro e w1 ⟨rfl,hb1⟩;have hz1:=hb1.size;clear u1)|(refine(u2 _).mono ?_;rintro e w2 ⟨rfl,hb2⟩))
     go_ret2
     exact⟨rfl,hb1.trans (hb2.mono hz1)⟩
   have hw:Hid (Zm big (s.data.toList.drop i)=(65536+(u - 55296)*1024+(v - 56320),4)):=by rw [hd,hd2];exact fo hn c3 (by omega)
   rw [hw.out];clear hl hd lo mi sh no fo hl2 hn hd2;go_enter Tryz.func147,Tryz.ntmps147
   go_wp2_with (go_at_call 225;first|(refine(u1 _).mono ?_;rintro e w1 ⟨rfl,hb1⟩;have hz1:=hb1.size;clear u1)|(refine(u2 _).mono ?_;rintro e w2 ⟨rfl,hb2⟩))
   go_ret2
   exact⟨by simp,hb1.trans (hb2.mono hz1)⟩
 · have hw:Hid (Zm big (s.data.toList.drop i)=(0,0)):=by
    generalize s.data.toList.drop i=l at*
    match l,hl with
    |[],_=>rfl
    |[_],_=>rfl
    |_::_::_,h=>simp at h;omega
   rw [hw.out];clear hl;go_enter Tryz.func147,Tryz.ntmps147
   go_wp2_with fail
   go_ret2
   exact⟨rfl,Below.refl _ _⟩
end Go.Proofs.YtlglfmbccihopaaGreatDoor
