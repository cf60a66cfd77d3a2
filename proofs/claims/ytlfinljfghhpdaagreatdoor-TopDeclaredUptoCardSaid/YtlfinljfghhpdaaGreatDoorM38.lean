/- Lemmas for a statement on the tops; conditions: as each says. -/
import Derived.Shelf.Strings.SlTrimAscii
import Derived.Test.YtlfinljfghhpdaaGreatDoorM37
set_option linter.unusedVariables false
set_option linter.unusedSimpArgs false
set_option maxRecDepth 100000
set_option maxHeartbeats 4000000
namespace Go.Proofs.YtlfinljfghhpdaaGreatDoor
open Go Go.RowKit
theorem Zhp (c:Nat)(r:List UInt8):∃q,Zd c++r=91::99::115::58::q:=⟨nmC c++[93]++(10::tm1)++r,by unfold Zd ln1;simp⟩
theorem ZrD (c:Nat)(r:List UInt8):Zdt (Zd c++r)=(0,0):=by
 obtain⟨q,e⟩:=Zhp c r;rw [e];rfl
theorem ZpC (c:Nat)(r:List UInt8)(hr:(Zd c++r).length≤2000)(w:World):Calls Tryz.prog 57 #[.string (B (Zd c++r))] w fun e w'=>e= .returned (.tuple #[.string (B (Zd c++r)),.bool true])∧Below w.heap.size w w':=by
 have hmk:=fun w=>Zjt (Zd c++r) w;rw [ZrD] at hmk;have hsz:=Zy (Zd c++r);generalize Zd c++r=s at*;go_enter Tryz.func57,Tryz.ntmps57
 go_wp2_with (go_at_call 81;refine(hmk _).mono ?_;clear hmk;rintro e w1 ⟨rfl,rfl⟩)
 go_ret2
 exact⟨by simp;rw [ZeY,List.drop_zero,Nat.sub_zero,List.take_length],Below.refl _ _⟩
theorem ZrV {a:List UInt8} (h:a.all Zaj=true)(q:List UInt8):Lib.indexAny (a++10::q) [13,10]=a.length:=by
 induction a with
 |nil=>rfl
 |cons x a ih=>
  simp only [List.all_cons,Bool.and_eq_true] at h;have hx:([13,10]:List UInt8).contains x=false:=by
   have h1:=h.1;unfold Zaj at h1;simp only [Bool.and_eq_true,bne_iff_ne,ne_eq] at h1;simp [h1.1,h1.2]
  rw [List.cons_append,Lib.indexAny,hx,ih h.2];have:((a.length:Int)== -1)=false:=by rw [beq_eq_false_iff_ne];omega
  simp [this]
theorem ia_bd (l cs:List UInt8): -1≤Lib.indexAny l cs∧Lib.indexAny l cs<l.length:=by
 refine⟨Lib.indexAny_ge cs l,?_⟩;induction l with
 |nil=>simp [Lib.indexAny]
 |cons x l ih=>
  rw [Lib.indexAny];split
  · simp only [List.length_cons];omega
  · split<;>simp only [List.length_cons]<;>omega
theorem Zin:(Tryz.prog.info? 247).map (fun i=>(i.zero,i.size))=some (some (.agg (Array.replicate 256 (.bool false))),256):=by kernel_rfl
theorem Zjo (s:ByteArray)(h8:8<s.size)(hs:s.size≤100000)(w:World):Calls Tryz.prog 122 #[.string s,.string ⟨#[13,10]⟩] w fun e w'=>e= .returned (.int .i64 (Lib.indexAny s.data.toList [13,10]))∧Below w.heap.size w w':=by
 refine(Any.strings_IndexAny_long Tryz.lays153 (zero_of_info Zin).1 (zero_of_info Zin).2 s ⟨#[13,10]⟩ w (by decide) h8 (by omega) (by decide) (ascii_of_all (by decide))).mono ?_;rintro e w' ⟨h1,h2⟩;refine⟨h1,?_⟩;rw [h2];exact((Below.refl _ _).alloc (Nat.le_refl _) _).alloc (by simp) _
theorem Zp8 (c:Nat)(r:List UInt8)(w:World):Calls Tryz.prog 121 #[.string (B (Zd c++r)),.string ⟨#[13,10]⟩] w fun e w'=>e= .returned (.string (B (Zd c++r)))∧Below w.heap.size w w':=by
 refine(Any.strings_TrimLeft_laid Tryz.lays161 Zin (B (Zd c++r)) ⟨#[13,10]⟩ w (by decide) (ascii_of_all (by decide))).mono ?_;rintro e w' ⟨h1,h2⟩;refine⟨?_,h2⟩;rw [h1,ZQ];obtain⟨q,e⟩:=Zhp c r;rw [e];rfl
theorem Zpz {c:Nat} (hc:c≤6)(r:List UInt8)(hr:(Zd c++r).length≤2000)(w:World):Calls Tryz.prog 59 #[.string (B (Zd c++r))] w fun e w'=>∃nx:ByteArray,e= .returned (.tuple #[.string (B (ln1 c)),.string nx])∧nx.size≤2000∧Below w.heap.size w w':=by
 have htl:=fun w=>Zp8 c r w;have hsz:=Zy (Zd c++r);have e0:Zd c++r=ln1 c++10::(tm1++r):=by unfold Zd;simp
 have hl1:=(Zch hc).2.2.2.1;have hlen:(Zd c++r).length=(ln1 c).length+11+r.length:=by rw [e0];simp [tm1];omega
 have hi1:=fun w=>Zjo (B (Zd c++r)) (by omega) (by omega) w;rw [ZQ,e0,ZrV (Zch hc).1,←e0] at hi1;have hx1:(B (Zd c++r)).extract 0 (ln1 c).length=B (ln1 c):=by rw [ZeY,e0];simp
 have hx2:(B (Zd c++r)).extract ((ln1 c).length+1) (Zd c++r).length=B (tm1++r):=by
  rw [ZeY,e0,show ln1 c++10::(tm1++r)=(ln1 c++[10])++(tm1++r) by simp,List.drop_left' (by simp)];congr 1
  exact List.take_of_length_le (by simp;omega)
 have hgl:(ln1 c).length<(B (Zd c++r)).size:=by omega
 have hg:(((B (Zd c++r))[(ln1 c).length]'hgl).toNat:Int)=10:=by
  have h1:=Zht (B (Zd c++r)) (ln1 c).length hgl;rw [ZQ] at h1;rw [←h1];have h2:(Zd c++r).getD (ln1 c).length 0=10:=by rw [e0];simp
  rw [h2];rfl
 rw [hlen] at hx2;have hs2:=Zy (tm1++r);have ht10:(tm1++r).length=10+r.length:=by simp [tm1];omega
 have hi2:=fun w=>Zjo (B (tm1++r)) (by omega) (by omega) w;rw [ZQ] at hi2;have hib:=ia_bd (tm1++r) [13,10];generalize Lib.indexAny (tm1++r) [13,10]=z at*;generalize Zd c++r=s at*;generalize ln1 c=l1 at*;generalize tm1++r=t2 at*;clear e0;go_enter Tryz.func59,Tryz.ntmps59
 go_upto_region 5 with(first
  |(go_at_call 121;refine(htl _).mono ?_;clear htl;rintro e w1 ⟨rfl,hb1⟩)
  |(go_at_call 122;refine(hi1 _).mono ?_;clear hi1;rintro e w2 ⟨rfl,hb2⟩;have HB2:=Lib.hid (hb1.trans (hb2.mono hb1.size));clear hb1 hb2))
 have hle:(l1.length:Int)≤(s.length:Int):=by omega
 have hle1:(l1.length:Int)+1≤(s.length:Int):=by omega
 have hg13:(((B s)[l1.length]'hgl).toNat:Int)≠13:=by omega
 go_region
 all_goals
  have HX:=Lib.hid (show∀k,((B t2).extract 0 k).size≤2000 from fun k=>by rw [ByteArray.size_extract];omega);have hzl:z≤(t2.length:Int):=by omega
  by_cases hz0:0≤z
  · obtain⟨m,rfl⟩:∃m:Nat,z=m:=⟨z.toNat,by omega⟩
    go_wp2_with (go_at_call 122;refine(hi2 _).mono ?_;clear hi2;rintro e w3 ⟨rfl,hb3⟩)
    go_ret2
    exact⟨_,rfl,HX.out _,HB2.out.trans ((below_drewN (Below.refl _ w2) 1).trans (hb3.mono (Nat.le_refl _))|>.mono HB2.out.size)⟩
  · go_wp2_with (go_at_call 122;refine(hi2 _).mono ?_;clear hi2;rintro e w3 ⟨rfl,hb3⟩)
    go_ret2
    exact⟨_,rfl,by omega,HB2.out.trans ((below_drewN (Below.refl _ w2) 1).trans (hb3.mono (Nat.le_refl _))|>.mono HB2.out.size)⟩
theorem Zoj {c:Nat} (w:World):Calls Tryz.prog 117 #[.string (B (ln1 c))] w fun e w'=>e= .returned (.bool false)∧Below w.heap.size w w':=by
 have hd:=fun w=>Zjl 91 w;have hsz:=Zy (ln1 c);have hl:0<(ln1 c).length:=by simp [ln1]
 have hgl:0<(B (ln1 c)).size:=by omega
 have hg:((B (ln1 c))[0]'hgl)=91:=rfl;generalize ln1 c=l at*;go_enter Tryz.func117,Tryz.ntmps117
 go_wp2
 refine wp_loop_rounds 1 ?_;rw [rounds_succ];go_wp2_with (go_at_call 195;refine(hd _).mono ?_;rintro e w1 ⟨rfl,rfl⟩)
 go_ret
 exact⟨rfl,Below.refl _ _⟩
theorem ZpD {c:Nat} (hc:c≤6)(nx:ByteArray)(w:World):Calls Tryz.prog 58 #[.string (B (ln1 c)),.string nx] w fun e w'=>e= .returned (.tuple #[.int .i64 7,.bool true])∧Below w.heap.size w w':=by
 have hd:=fun w=>Zoj (c:=c) w;have hsz:=Zy (ln1 c);have hl:0<(ln1 c).length:=by simp [ln1]
 have hgl:0<(B (ln1 c)).size:=by omega
 have hg:((B (ln1 c))[0]'hgl)=91:=rfl;have hne:=Zdh (l:=ln1 c) (by simp [ln1]);have hsc:((B (ln1 c)).toList==[91,83,99,114,105,112,116,32,73,110,102,111,93])=false:=by
  have h:(List.range 7).all (fun c=> !((B (ln1 c)).toList==[91,83,99,114,105,112,116,32,73,110,102,111,93]))=true:=by decide+kernel
  simpa using List.all_eq_true.1 h c (List.mem_range.2 (by omega))
 generalize ln1 c=l at*;go_enter Tryz.func58,Tryz.ntmps58
 go_wp2_with (go_at_call 117;refine(hd _).mono ?_;rintro e w1 ⟨rfl,hb1⟩)
 go_ret2
 exact⟨rfl,hb1⟩
theorem Ziw (w:World)(k:Nat)(hk:k<3):(Instr.index 108 (.agg #[.string ⟨#[73,68,51]⟩,.int .i64 1,.string ⟨#[79,103,103,83]⟩,.int .i64 2,.string ⟨#[102,76,97,67]⟩,.int .i64 3]) (.int .i64 k)).run Tryz.prog w= .ok (.agg (if k=0 then#[.string ⟨#[73,68,51]⟩,.int .i64 1] else if k=1 then#[.string ⟨#[79,103,103,83]⟩,.int .i64 2] else#[.string ⟨#[102,76,97,67]⟩,.int .i64 3])) w:=by
 obtain⟨info,h1,h2⟩:=Option.map_eq_some_iff.1 (show(Tryz.prog.info? 107).map (·.size)=some 2 by kernel_rfl);have hs:(Go.sizeOf 107).run Tryz.prog w= .ok 2 w:=by simp [Go.sizeOf,Ev.run_ti h1,h2]
 have h3:k=0∨k=1∨k=2:=by omega
 rcases h3 with rfl|rfl|rfl<;>simp [Instr.index,asIntOf,Ev.run_und Tryz.underlying108,hs,part]
theorem Zt2 (w:World):(Instr.index 108 (.agg #[.string ⟨#[73,68,51]⟩,.int .i64 1,.string ⟨#[79,103,103,83]⟩,.int .i64 2,.string ⟨#[102,76,97,67]⟩,.int .i64 3]) (.int .i64 0)).run Tryz.prog w= .ok (.agg #[.string ⟨#[73,68,51]⟩,.int .i64 1]) w:=Ziw w 0 (by omega)
theorem Zt3 (w:World):(Instr.index 108 (.agg #[.string ⟨#[73,68,51]⟩,.int .i64 1,.string ⟨#[79,103,103,83]⟩,.int .i64 2,.string ⟨#[102,76,97,67]⟩,.int .i64 3]) (.int .i64 1)).run Tryz.prog w= .ok (.agg #[.string ⟨#[79,103,103,83]⟩,.int .i64 2]) w:=Ziw w 1 (by omega)
theorem Zt4 (w:World):(Instr.index 108 (.agg #[.string ⟨#[73,68,51]⟩,.int .i64 1,.string ⟨#[79,103,103,83]⟩,.int .i64 2,.string ⟨#[102,76,97,67]⟩,.int .i64 3]) (.int .i64 2)).run Tryz.prog w= .ok (.agg #[.string ⟨#[102,76,97,67]⟩,.int .i64 3]) w:=Ziw w 2 (by omega)
theorem Zpy {c:Nat} (hc:c≤6)(r:List UInt8)(hr:(Zd c++r).length≤2000)(w:World)(hS:Zff w):
 Calls Tryz.prog 34 #[.string (B (Zd c++r))] w fun e w'=>e= .returned (.tuple #[.int .i64 7,.bool true])∧Below w.heap.size w w':=by
 have hp:∀p:List UInt8,p=[73,68,51]∨p=[79,103,103,83]∨p=[102,76,97,67]→Lib.hasPrefix (Zd c++r) p=false:=by
  obtain⟨q,e⟩:=Zhp c r;rw [e];rintro p (rfl|rfl|rfl)<;>rfl
 have h1:∀w,Calls Tryz.prog 56 #[.string (B (Zd c++r)),.string ⟨#[73,68,51]⟩] w fun e w'=>e= .returned (.bool false)∧w=w':=fun w=>(Tryz.strings_HasPrefix (B (Zd c++r)) _ w).mono fun e w' h=>⟨by rw [h.1,ZQ,hp _ (.inl rfl)],h.2.symm⟩
 have h2:∀w,Calls Tryz.prog 56 #[.string (B (Zd c++r)),.string ⟨#[79,103,103,83]⟩] w fun e w'=>e= .returned (.bool false)∧w=w':=fun w=>(Tryz.strings_HasPrefix (B (Zd c++r)) _ w).mono fun e w' h=>⟨by rw [h.1,ZQ,hp _ (.inr (.inl rfl))],h.2.symm⟩
 have h3:∀w,Calls Tryz.prog 56 #[.string (B (Zd c++r)),.string ⟨#[102,76,97,67]⟩] w fun e w'=>e= .returned (.bool false)∧w=w':=fun w=>(Tryz.strings_HasPrefix (B (Zd c++r)) _ w).mono fun e w' h=>⟨by rw [h.1,ZQ,hp _ (.inr (.inr rfl))],h.2.symm⟩
 have htx:=fun w=>ZpC c r hr w;have hld:=fun w=>Zpz hc r hr w;have hts:=fun nx w=>ZpD hc nx w;have hu:=Tryz.underlying108;clear hp;generalize Zd c++r=s at*;go_enter Tryz.func34,Tryz.ntmps34
 go_wp2_with (refine wpList_load_mid rfl 108 _ rfl 0 0 rfl Ziv _ hS hu rfl (by kernel_rfl) ?_;rw [show Ziv.toArray=(#[.string ⟨#[73,68,51]⟩,.int .i64 1,.string ⟨#[79,103,103,83]⟩,.int .i64 2,.string ⟨#[102,76,97,67]⟩,.int .i64 3]:Array Value) from rfl])
 refine wp_loop_rounds 4 ?_;rw [rounds_succ];go_wp2_with fail
 rename_i hK
 rw [Zt2];refine hK _ _ ?_;clear hK;go_wp2_with (go_at_call 56;refine(h1 _).mono ?_;clear h1;rintro e w1 ⟨rfl,rfl⟩)
 rw [rounds_succ];go_wp2_with fail
 rename_i hK
 rw [Zt3];refine hK _ _ ?_;clear hK;go_wp2_with (go_at_call 56;refine(h2 _).mono ?_;clear h2;rintro e w2 ⟨rfl,rfl⟩)
 rw [rounds_succ];go_wp2_with fail
 rename_i hK
 rw [Zt4];refine hK _ _ ?_;clear hK;go_wp2_with (go_at_call 56;refine(h3 _).mono ?_;clear h3;rintro e w3 ⟨rfl,rfl⟩)
 rw [rounds_succ];have HB0:=Lib.hid ((((Below.refl _ w).alloc (Nat.le_refl _) (.cells #[.string ⟨#[73,68,51]⟩,.int .i64 1] 107)).alloc (by simp only [World.size_alloc];omega) (.cells #[.string ⟨#[79,103,103,83]⟩,.int .i64 2] 107)).alloc (by simp only [World.size_alloc];omega) (.cells #[.string ⟨#[102,76,97,67]⟩,.int .i64 3] 107));generalize (((w.alloc _).alloc _).alloc _)=W at*;go_wp2_with (first
  |(go_at_call 57;refine(htx _).mono ?_;clear htx;rintro e w4 ⟨rfl,hb4⟩;have HB1:=Lib.hid (HB0.out.trans (hb4.mono HB0.out.size));clear hb4)
  |(go_at_call 59;refine(hld _).mono ?_;clear hld;rintro e w5 ⟨nx,rfl,_,hb5⟩;have HB2:=Lib.hid (HB1.out.trans (hb5.mono HB1.out.size));clear hb5)
  |(go_at_call 58;refine(hts nx _).mono ?_;clear hts;rintro e w6 ⟨rfl,hb6⟩;have HB3:=Lib.hid (HB2.out.trans (hb6.mono HB2.out.size));clear hb6))
 go_ret2
 exact⟨rfl,HB3.out⟩
theorem Ztn {w:World} {v:Value} {ps:List Pc} {b:Nat} (h:ZB pcV w v ps)(hf:Ze6 b v):Zal pcV b w v ps:=by
 rcases h with⟨h0,h1⟩|⟨bk,c,h0,h1,h2,h3,h4⟩
 · exact .inl ⟨h0,h1⟩
 · exact .inr ⟨bk,c,h0,h1,h2,hf bk (by rw [h1];rfl),h3,h4⟩
theorem ZmO {w:World} {v:Value} {ps:List Pc} {b:Nat} (h:Zal pcV b w v ps):ZB pcV w v ps:=by
 rcases h with⟨h0,h1⟩|⟨bk,c,h0,h1,h2,_,h3,h4⟩
 · exact .inl ⟨h0,h1⟩
 · exact .inr ⟨bk,c,h0,h1,h2,h3,h4⟩
theorem Zou (t:List UInt8)(ht:t.length≤2000)(ps:List Pc)(hp:ZP Z4 (Zv t)= .inl ps)(w:World):Calls Tryz.prog 162 #[.string (B t)] w fun e w'=>∃A c,e= .returned (.tuple #[.slice A ps.length c,.agg #[.int .i64 0,.int .i64 0]])∧Zal pcV w.heap.size w' (.slice A ps.length c) ps∧Below w.heap.size w w':=by
 refine(ZoR (B t) (by rw [Zy];omega) w).mono ?_;rintro e w' ⟨v,x,a,rfl,h1,h2⟩;rw [ZQ,hp] at h1;rcases h1 with⟨qs,h3,h4,h5,rfl,rfl⟩|⟨n,h3,_⟩
 · injection h3 with h3
   subst h3;have h6:=Ztn h4 h5;obtain⟨A,c,hv,_⟩:=h6.len;subst hv;exact⟨A,c,rfl,h6,h2⟩
 · cases h3
theorem ZjB (t:List UInt8)(ht:t.length≤2000)(ps:List Pc)(hp:ZP Z4 (Zv t)= .inl ps)(w:World):Calls Tryz.prog 85 #[.int .i64 7,.string (B t)] w fun e w'=>∃A c,e= .returned (.tuple #[.slice A ps.length c,.agg #[.int .i64 0,.int .i64 0]])∧Zal pcV w.heap.size w' (.slice A ps.length c) ps∧Below w.heap.size w w':=by
 have hpa:=fun w=>Zou t ht ps hp w;have F0:=Lib.hid (Bx.new w #[.int .i64 0,.int .i64 0] 33);have B0:=Lib.hid ((Below.refl w.heap.size w).alloc (Nat.le_refl _) (.cells #[.int .i64 0,.int .i64 0] 33));clear hp;go_enter Tryz.func85,Tryz.ntmps85
 go_wp2_with (go_at_call 162;refine(hpa _).mono ?_;clear hpa;rintro e w1 ⟨A,c,rfl,hr,hb1⟩;have F1:=Lib.hid (F0.out.below hb1);have B1:=Lib.hid (B0.out.trans (hb1.mono B0.out.size));have R1:=Lib.hid hr;clear hr hb1;have f0:=F1.out.cell 0;have f1:=F1.out.cell 1;have g0:=F1.out.free 0;have g1:=F1.out.free 1)
 have z:=ZdL F1.out (.int .i64 0) (.int .i64 0);refine bodyPost_ret (ZmK rfl _ _ w.heap.size _ _ _ _ _ rfl rfl z Tryz.underlying33 rfl (by kernel_rfl)) rfl ⟨A,c,rfl,?_,?_⟩
 · exact((R1.out.set (g:=w.heap.size) (by simp) 0 (.int .i64 0)).set (g:=w.heap.size) (by simp) 1 (.int .i64 0)).low (by simp)
 · exact(B1.out.setCell (p:=⟨w.heap.size,0,none⟩) (Nat.le_refl _) _).setCell (p:=⟨w.heap.size,1,none⟩) (Nat.le_refl _) _
theorem Zoh (t:List UInt8)(ht:t.length≤2000)(w:World):Calls Tryz.prog 83 #[.int .i64 7,.string (B t)] w fun e w'=>e= .returned (.string (B (ZbW (Zv t))))∧Below w.heap.size w w':=by
 have h:=fun w=>Zog (B t) (by rw [Zy];omega) w;rw [ZQ] at h;generalize ZbW (Zv t)=d at*;go_enter Tryz.func83,Tryz.ntmps83
 go_wp2_with (go_at_call 154;refine(h _).mono ?_;clear h;rintro e w1 ⟨rfl,hb1⟩)
 go_ret
 exact⟨rfl,hb1⟩
theorem Zsc {P:Program} {l:List Oper} {Q:Exit→Act→World→Prop} {S:World→Prop} {i:Nat} {r:List (Nat×Bool)} {o:Oper} {a:Act} {w:World} (ho:Zbh l i=some o)(hw:Region.wanted o (yielded l.toArray a.tmps)=true)(ty:TypeId)(x:Operand)(hop:o.op= .load ty x)(b off:Nat)(hx:a.eval x= .pointer (some ⟨b,off,none⟩))(cs:List Value)(d:TypeDesc)(hS:∀w,S w→w.rangeAt b off cs)
 (hu:P.underlying ty=some d) (hd:d.isRow=true) (hi:(P.info? ty).map (·.size)=some cs.length) (h:ZbT P l Q S r (a.put o.dst (.agg cs.toArray)) w):ZbT P l Q S ((i,true)::r) a w:=
 ⟨o,_,ho,yieldsIf_load_mid hw ty x hop b off hx cs d hS hu hd hi,h⟩
theorem Bx.range0 {w:World} {g:Nat} {cs:List Value} {T:TypeId} (h:Bx w g cs.toArray T):w.rangeAt g 0 cs:=fun j u hu=>by
 rw [Nat.zero_add,h.cell j];simpa using hu
def TT (kd:Int)(vp:Value)(set:Int):Array Value:=#[.int .i64 kd,.int .i64 0,.int .u8 0,.int .u8 0,.slice none 0 0,.string ⟨#[]⟩,
 .int .u8 0,.int .u64 0,.int .u32 0,.int .u32 0,.string ⟨#[]⟩,.string ⟨#[]⟩,.string ⟨#[]⟩,.int .i64 0,.slice none 0 0,.string ⟨#[]⟩,.slice none 0 0,
 .slice none 0 0,.string ⟨#[]⟩,.int .i64 0,.slice none 0 0,.int .i64 0,.string ⟨#[]⟩,vp,.int .i64 set]
theorem Zge (kd:Int)(vp:Value)(set:Int)(h:vp.oneCell'=true):(TT kd vp set).all (·.oneCell')=true:=by
 unfold TT;simp [h]
 repeat (first|exact rfl|refine And.intro rfl ?_)
theorem tt_kd (kd k2:Int)(vp:Value)(set:Int):(TT kd vp set).setIfInBounds 0 (.int .i64 k2)=TT k2 vp set:=rfl
theorem PgSt.cells {w wx:World} {F:Nat} {a0 a1 a2 a3:Value} (h:PgSt w wx F #[a0,a1,a2,a3]):
 (wx.cell? ⟨w.heap.size,0,none⟩=some a0∧wx.cell? ⟨w.heap.size,1,none⟩=some a1∧wx.cell? ⟨w.heap.size,2,none⟩=some a2∧wx.cell? ⟨w.heap.size,3,none⟩=some a3)∧
 (wx.cell? ⟨F,0,none⟩=some (.int .i64 0)∧wx.cell? ⟨F,1,none⟩=some (.int .i64 0)∧wx.frozen? ⟨F,0,none⟩=false∧wx.frozen? ⟨F,1,none⟩=false):=
 ⟨⟨h.o.cell 0,h.o.cell 1,h.o.cell 2,h.o.cell 3⟩,h.f.cell 0,h.f.cell 1,h.f.free 0,h.f.free 1⟩
theorem Zp0 (l t d:List UInt8)(hl:l.length≤2000)(ht:t.length≤2000)(k bud:Int)(fb cs:Nat)(det:Bool)(qs:List Int)(ps:List Pc)(hm:Zdt l=(0,0))(hdl:ZbW (Zv l)=d)(hd0:d.length≤2000)
 (hr:ZdC l d fb det=cs) (hcs:cs≤9) (hd:Zbb cs l= .inl qs) (hq:Zb qs=t) (hp:ZP Z4 (Zv t)= .inl ps) (w:World) (hG:Grd w):
 Calls Tryz.prog 38 #[.int .i64 7,.string (B l),.agg #[.int .i64 k,.int .i64 fb,.bool det,.int .i64 bud]] w fun e w'=>∃A n c,e= .returned (.tuple #[.agg (TT 0 (.slice A n c) cs),.agg #[.int .i64 0,.int .i64 0]])∧Zal pcV w.heap.size w' (.slice A n c) ps∧Below w.heap.size w w':=by
 have hmk:=fun w=>Zjt l w;rw [hm] at hmk;have hdc:=fun w=>Zoh l hl w;rw [hdl] at hdc;have hrs:=fun w hG=>Zpq l d (by omega) (by omega) k bud fb det w hG;rw [hr] at hrs;have hde:=fun w hG=>Zgr cs hcs l (by omega) w hG;rw [hd] at hde;unfold Zaq D2V at hde;simp only at hde;rw [hq] at hde;have hpc:=fun w=>ZjB t ht ps hp w;have hbd:=fun w=>Zdc 0 0 rfl w;have S0:=Lib.hid (PgSt.new w #[.int .i64 k,.int .i64 fb,.bool det,.int .i64 bud]);have G0:=Lib.hid hG;have hxt:(B l).extract 0 l.length=B l:=by rw [←Zy l];simp
 have hsz:=Zy l;clear hp hq hd hr hdl hm hG;generalize B l=TL at*;generalize B t=TX at*;generalize B d=TD at*;go_enter Tryz.func38,Tryz.ntmps38
 go_upto_region 1 with fail
 generalize hW:(((w.alloc _).alloc _).alloc _)=W0;have S1:Hid (PgSt w W0 (w.heap.size+1+1) _):=Lib.hid (by rw [←hW];exact S0.out);clear S0 hW;generalize w.heap.size+1+1=F at*;have hF:=S1.out.hF;obtain⟨⟨o0,o1,o2,o3⟩,⟨f0,f1,h0,h1⟩⟩:=S1.out.cells;go_upto_region 3 with(go_at_call 81;refine(hmk _).mono ?_;clear hmk;rintro e w1 ⟨rfl,rfl⟩)
 have L1:Hid (PgSt w W0.drew F _):=Lib.hid (S1.out.below (Zqw (Below.refl _ _)));clear S1 o0 o1 o2 o3 f0 f1 h0 h1;refine ZiV (fun W=>PgSt w W F #[.int .i64 k,.int .i64 fb,.bool det,.int .i64 bud]) [(0,true),(1,true),(2,true),(4,true),(3,false),(5,false),(6,true)] (by kernel_rfl) (by kernel_rfl) (by kernel_rfl) (Nat.le_of_ble_eq_true rfl) (fun _ _ d _ _ h=>by cases d<;>exact h) L1.out ?_;generalize W0.drew=W1 at*
 iterate 3
  refine Zb1 rfl (by rfl) _ (fun W hSw=>by go_simp;with_reducible rfl) ?_
  try simp only [Act.put,List.setIfInBounds_toArray,List.set_cons_zero,List.set_cons_succ]
 refine Zsc rfl (by rfl) 39 _ rfl w.heap.size 0 rfl [.int .i64 k,.int .i64 fb,.bool det,.int .i64 bud] _ (fun w' h=>Bx.range0 h.o) Tryz.underlying39 rfl (by kernel_rfl) ?_
 try simp only [Act.put,List.setIfInBounds_toArray,List.set_cons_zero,List.set_cons_succ]
 refine Zds rfl (by rfl) (fun KK hKK=> ?_)
 go_simp
 go_at_call 83
 refine(hdc _).mono ?_;clear hdc;rintro e w2 ⟨rfl,hb2⟩;have L2:=Lib.hid (L1.out.below hb2);clear L1 hb2;go_wp2_with fail
 refine hKK.out _ _ L2.out ?_;clear hKK KK
 try simp only [Act.put,List.setIfInBounds_toArray,List.set_cons_zero,List.set_cons_succ]
 refine Zds rfl (by rfl) (fun KK hKK=> ?_)
 go_simp
 go_at_call 82
 refine(hrs _ (G0.out.below L2.out.low)).mono ?_;clear hrs;rintro e w3 ⟨rfl,hb3⟩;have L3:=Lib.hid (L2.out.below hb3);clear L2 hb3;go_wp2_with fail
 refine hKK.out _ _ L3.out ?_;clear hKK KK
 try simp only [Act.put,List.setIfInBounds_toArray,List.set_cons_zero,List.set_cons_succ]
 refine Zb1 rfl (by rfl) _ (fun W hSw=>by go_simp;with_reducible rfl) ?_
 try simp only [Act.put,List.setIfInBounds_toArray,List.set_cons_zero,List.set_cons_succ]
 refine ZhN ?_;obtain⟨⟨o0,o1,o2,o3⟩,⟨f0,f1,h0,h1⟩⟩:=L3.out.cells;have G3:=Lib.hid (G0.out.below L3.out.low);go_upto_region 5 with(go_at_call 84;refine(hde _ G3.out).mono ?_;clear hde;rintro e w4 ⟨rfl,hb4⟩;have L4:=Lib.hid (L3.out.below hb4);clear hb4 o0 o1 o2 o3 f0 f1 h0 h1)
 have E4:=Lib.hid (Bx.new w4 #[.int .i64 0,.int .i64 0] 33);have L5:=Lib.hid (L4.out.below ((Below.refl _ _).alloc (Nat.le_refl _) (.cells #[.int .i64 0,.int .i64 0] 33)));have hK4:=L4.out.f.lt;clear L4;generalize (w4.alloc (.cells #[.int .i64 0,.int .i64 0] 33))=w5 at*;generalize w4.heap.size=K at*;have e0:=E4.out.cell 0;have e1:=E4.out.cell 1;have g0:=E4.out.free 0;have g1:=E4.out.free 1;obtain⟨⟨o0,o1,o2,o3⟩,⟨f0,f1,h0,h1⟩⟩:=L5.out.cells;go_upto_region 7 with(go_at_call 10;refine(hbd _).mono ?_;rintro e w6 ⟨rfl,hb6⟩;have E6:=Lib.hid (E4.out.below hb6);have L6:=Lib.hid (L5.out.below hb6);clear hb6 E4 L5 e0 e1 g0 g1 o0 o1 o2 o3 f0 f1 h0 h1)
 have e0:=E6.out.cell 0;have e1:=E6.out.cell 1;have g0:=E6.out.free 0;have g1:=E6.out.free 1;obtain⟨⟨o0,o1,o2,o3⟩,⟨f0,f1,h0,h1⟩⟩:=L6.out.cells;have hK6:=E6.out.lt;have hF6:=L6.out.f.lt;have hw6:=L6.out.low.size;have hZ6:=L6.out.z.lt;go_upto_region 8 with(go_at_call 85;refine(hpc _).mono ?_;clear hpc;rintro e w7 ⟨A,c,rfl,hr7,hb7⟩;have E7:=Lib.hid (E6.out.below hb7);have L7:=Lib.hid (L6.out.below hb7);have R7:=Lib.hid hr7;have e0:=E7.out.cell 0;have e1:=E7.out.cell 1;have g0:=E7.out.free 0;have g1:=E7.out.free 1;clear hr7 hb7 E6 L6 o0 o1 o2 o3 f0 f1 h0 h1)
 have E8:=Lib.hid (ZdL E7.out (.int .i64 0) (.int .i64 0));have hFK:F<K:=hK4;have L8:Hid (PgSt w ((w7.setCell ⟨K,0,none⟩ (.int .i64 0)).setCell ⟨K,1,none⟩ (.int .i64 0)) F #[.int .i64 k,.int .i64 fb,.bool det,.int .i64 bud]):=Lib.hid ⟨(L7.out.o.set (by omega) 0 _).set (by omega) 1 _,(L7.out.z.set (by omega) 0 _).set (by omega) 1 _,(L7.out.f.set (by omega) 0 _).set (by omega) 1 _,(L7.out.low.setCell (by show w.heap.size≤K;omega) _).setCell (by show w.heap.size≤K;omega) _,hF⟩;have R8:=Lib.hid ((R7.out.set hK6 0 (.int .i64 0)).set hK6 1 (.int .i64 0));clear R7 L7 E7 e0 e1 g0 g1;generalize ((w7.setCell ⟨K,0,none⟩ (.int .i64 0)).setCell ⟨K,1,none⟩ (.int .i64 0))=w8 at*;have e0:=E8.out.cell 0;have e1:=E8.out.cell 1;go_upto_region 10 with(go_at_call 10;refine(hbd _).mono ?_;rintro e w9 ⟨rfl,hb9⟩;have R9:=Lib.hid (R8.out.below (hb9.mono (Nat.le_refl _)));have L9:=Lib.hid (L8.out.below hb9);clear hb9 R8 L8 E8 e0 e1)
 have f0:=L9.out.f.cell 0;go_wp2_with (first
  |(refine ZnG rfl 74 _ rfl (TT 0 (.slice A ps.length c) cs) (by kernel_rfl) ?_)
  |(refine ZiW rfl 74 _ _ rfl (w.heap.size+1) (T67 0 0 0 0 (.slice none 0 0) []) (TT 0 (.slice A ps.length c) cs) rfl rfl L9.out.z (by kernel_rfl) rfl (Zge _ _ _ rfl) fun W bW hW=> ?_;have BW:=Lib.hid bW;have HW:=Lib.hid hW;have FW:=Lib.hid (L9.out.f.but hW (by omega));have e0:=FW.out.cell 0;have e1:=FW.out.cell 1;have g0:=FW.out.free 0;have g1:=FW.out.free 1;clear bW hW f0))
 have FX:=ZdL FW.out (.int .i64 0) (.int .i64 0);have TX:=(BW.out.set (k:=F) (by omega) 0 (.int .i64 0)).set (k:=F) (by omega) 1 (.int .i64 0);refine bodyPost_ret (ZmJ rfl _ _ (w.heap.size+1) F _ _ _ _ _ _ _ _ rfl rfl TX FX Tryz.underlying74 rfl (by kernel_rfl) Tryz.underlying33 rfl (by kernel_rfl)) rfl ⟨A,_,c,rfl,?_,?_⟩
 · exact(((R9.out.but HW.out (by omega)).set (g:=F) (by omega) 0 _).set (g:=F) (by omega) 1 _).low (by omega)
 · exact((L9.out.low.trans ((HW.out.mono L9.out.low.size).below (by omega))).setCell (p:=⟨F,0,none⟩) (by show w.heap.size≤F;omega) _).setCell (p:=⟨F,1,none⟩) (by show w.heap.size≤F;omega) _
theorem PpSt.kindT {w wx:World} {F K:Nat} {OA FA:Array Value} {kd k2:Int} {vp:Value} {set:Int} (h:PpSt w wx F K OA (TT kd vp set) FA):PpSt w (wx.setCell ⟨K,0,none⟩ (.int .i64 k2)) F K OA (TT k2 vp set) FA:=by
 have:=h.t.put 0 (.int .i64 k2);rw [tt_kd] at this;exact h.butK ((But.refl K _ wx).setCell (p:=⟨K,0,none⟩) (.inr rfl) _) this
theorem Zom (b:ByteArray)(fb bud:Int)(det:Bool)(cs:Int)(ps:List Pc)(w:World)
 (hsn:∀wx,Below w.heap.size w wx→Calls Tryz.prog 34 #[.string b] wx fun e w'=>e= .returned (.tuple #[.int .i64 7,.bool true])∧Below wx.heap.size wx w')
 (hp:∀wx,Below w.heap.size w wx→Calls Tryz.prog 38 #[.int .i64 7,.string b,.agg #[.int .i64 0,.int .i64 fb,.bool det,.int .i64 bud]] wx fun e w'=>∃A n c,e= .returned (.tuple #[.agg (TT 0 (.slice A n c) cs),.agg #[.int .i64 0,.int .i64 0]])∧Zal pcV wx.heap.size w' (.slice A n c) ps∧Below wx.heap.size wx w'):
 Calls Tryz.prog 19 #[.string b,.agg #[.int .i64 0,.int .i64 fb,.bool det,.int .i64 bud]] w fun e w'=>∃A n c,e= .returned (.tuple #[.agg (TT 7 (.slice A n c) cs),.agg #[.int .i64 0,.int .i64 0]])∧Zal pcV w.heap.size w' (.slice A n c) ps∧Below w.heap.size w w':=by
 have hbd:=fun w=>Zdc 0 0 rfl w;have S0:=Lib.hid (PgSt.new w #[.int .i64 0,.int .i64 fb,.bool det,.int .i64 bud]);go_enter Tryz.func19,Tryz.ntmps19
 go_upto_region 1 with fail
 generalize hW:(((w.alloc _).alloc _).alloc _)=W0;have S1:Hid (PgSt w W0 (w.heap.size+1+1) _):=Lib.hid (by rw [←hW];exact S0.out);clear S0 hW;generalize w.heap.size+1+1=F at*;have o0:=S1.out.o.cell 0;have o1:=S1.out.o.cell 1;have o2:=S1.out.o.cell 2;have o3:=S1.out.o.cell 3;have hF:=S1.out.hF;go_upto_region 7 with(go_at_call 34;refine(hsn _ S1.out.low).mono ?_;clear hsn;rintro e w1 ⟨rfl,hb1⟩;have S2:=Lib.hid (S1.out.below hb1);clear hb1 S1 o0 o1 o2 o3)
 go_upto_region 8 with(first
  |(refine ZnG rfl 74 _ rfl (T67 0 0 0 0 (.slice none 0 0) []) (by kernel_rfl) ?_)
  |(refine ZnH rfl 74 _ _ rfl _ _ (T67 0 0 0 0 (.slice none 0 0) []) 33 rfl rfl (by kernel_rfl) rfl (Zug _ _ _ _ _ _ rfl) fun W3 b3 b4 b5=> ?_;have S3:Hid (PpSt w W3 F _ _ _ _):=Lib.hid ⟨S2.out.below b5,b3,b4,S2.out.f.lt⟩;clear b3 b4 b5;obtain⟨⟨o0,o1,o2,o3⟩,⟨e0,e1,g0,g1⟩,⟨f0,f1,h0,h1⟩⟩:=S3.out.cells))
 generalize w1.heap.size=K at*;have S4:=Lib.hid (S3.out.put2 (.int .i64 5) (.int .i64 0));clear S3 S2 o0 o1 o2 o3 e0 e1 g0 g1 f0 f1 h0 h1;generalize ((W3.setCell ⟨K+1,0,none⟩ (.int .i64 5)).setCell ⟨K+1,1,none⟩ (.int .i64 0))=W4 at*;have hp4:=hp W4 S4.out.s.low;have hK4:=S4.out.t.lt;have hK6:=S4.out.e.lt;have hFK:=S4.out.lt;clear hp;obtain⟨⟨o0,o1,o2,o3⟩,⟨e0,e1,g0,g1⟩,⟨f0,f1,h0,h1⟩⟩:=S4.out.cells;go_upto_region 20 with(first
  |(go_at_call 38;refine hp4.mono ?_;clear hp4;rintro e w5 ⟨A,n,c,rfl,hit,hb5⟩;have S5:=Lib.hid (S4.out.below hb5);have I5:=Lib.hid hit;clear hit hb5 S4 o0 o1 o2 o3 e0 e1 g0 g1 f0 f1 h0 h1)
  |(refine ZiW rfl 74 _ _ rfl K (T67 0 0 0 0 (.slice none 0 0) []) (TT 0 (.slice A n c) cs) rfl rfl S5.out.t (by kernel_rfl) rfl (Zge _ _ _ rfl) fun W6 b6 h6=> ?_;have I6:=Lib.hid (I5.out.but h6 hK4);have S6:=Lib.hid (S5.out.butK h6 b6);clear b6 h6 S5 I5;obtain⟨⟨o0,o1,o2,o3⟩,⟨e0,e1,g0,g1⟩,⟨f0,f1,h0,h1⟩⟩:=S6.out.cells))
 have S7:=Lib.hid (S6.out.put2 (.int .i64 0) (.int .i64 0));have I7:=Lib.hid ((I6.out.set hK6 0 (.int .i64 0)).set hK6 1 (.int .i64 0));clear S6 I6 o0 o1 o2 o3 e0 e1 g0 g1 f0 f1 h0 h1;generalize ((W6.setCell ⟨K+1,0,none⟩ (.int .i64 0)).setCell ⟨K+1,1,none⟩ (.int .i64 0))=W7 at*;obtain⟨⟨o0,o1,o2,o3⟩,⟨e0,e1,g0,g1⟩,⟨f0,f1,h0,h1⟩⟩:=S7.out.cells;go_upto_region 22 with(go_at_call 10;refine(hbd _).mono ?_;rintro e w8 ⟨rfl,hb8⟩;have S8:=Lib.hid (S7.out.below hb8);have I8:=Lib.hid (I7.out.below hb8);clear hb8 S7 I7 o0 o1 o2 o3 e0 e1 g0 g1 f0 f1 h0 h1)
 have t0:=S8.out.t.cell 0;rw [show(TT 0 (.slice A n c) cs)[0]? =some (.int .i64 0) from rfl] at t0;have tf:=S8.out.t.free 0;go_upto_region 23 with fail
 have S9:=Lib.hid (S8.out.kindT (k2:=7));have I9:=Lib.hid (I8.out.set hK4 0 (.int .i64 7));clear S8 I8 t0 tf;generalize (w8.setCell ⟨K,0,none⟩ (.int .i64 7))=W9 at*;have hF9:=S9.out.s.hF;have hw9:=S9.out.s.o.lt;go_wp2_with (first
  |(refine wpList_load_row rfl 74 _ rfl K rfl 74 (TT 7 (.slice A n c) cs) (0,0) _ S9.out.t Tryz.underlying74 rfl (by kernel_rfl) ?_)
  |(refine ZiW rfl 74 _ _ rfl (w.heap.size+1) (T67 0 0 0 0 (.slice none 0 0) []) (TT 7 (.slice A n c) cs) rfl rfl S9.out.s.z (by kernel_rfl) rfl (Zge _ _ _ rfl) fun W bW hW=> ?_;have BW:=Lib.hid bW;have HW:=Lib.hid hW;have FW:=Lib.hid (S9.out.s.f.but hW (by omega));have e0:=FW.out.cell 0;have e1:=FW.out.cell 1;have g0:=FW.out.free 0;have g1:=FW.out.free 1;clear bW hW))
 have FX:=ZdL FW.out (.int .i64 0) (.int .i64 0);have TX:=(BW.out.set (k:=F) (by omega) 0 (.int .i64 0)).set (k:=F) (by omega) 1 (.int .i64 0);refine bodyPost_ret (ZmJ rfl _ _ (w.heap.size+1) F _ _ _ _ _ _ _ _ rfl rfl TX FX Tryz.underlying74 rfl (by kernel_rfl) Tryz.underlying33 rfl (by kernel_rfl)) rfl ⟨A,n,c,rfl,?_,?_⟩
 · exact(((I9.out.but HW.out (by omega)).set (g:=F) (by omega) 0 _).set (g:=F) (by omega) 1 _).low (by omega)
 · exact((S9.out.s.low.trans ((HW.out.mono S9.out.s.low.size).below (by omega))).setCell (p:=⟨F,0,none⟩) (by show w.heap.size≤F;omega) _).setCell (p:=⟨F,1,none⟩) (by show w.heap.size≤F;omega) _
theorem Zol (v v':Value)(ps:List Pc)(w:World)(hv:ZB pcV w v ps)(hv':ZB pcV w v' ps)(hn:ps.length≤1000000):
 Calls Tryz.prog 96 #[v,v'] w fun e w'=>e= .returned (.bool true)∧Below w.heap.size w w':=by
 obtain⟨A,c,rfl,hc,hA⟩:=ZmP hv;obtain⟨A',c',rfl,hc',hA'⟩:=ZmP hv';have HA:=Lib.hid hA;have HA':=Lib.hid hA';clear hA hv hA' hv';go_enter Tryz.func96,Tryz.ntmps96
 go_wp2_with fail
 go_loopw [13] (fun i wr=>(∃k:Nat,k≤ps.length∧i= .int .i64 k)∧Below w.heap.size w wr) (fun i _=>ps.length - (intOf i).toNat)
 case atStart=>exact⟨⟨0,by omega,rfl⟩,Below.refl _ _⟩
 case round=>
  obtain⟨⟨k,hk,rfl⟩,hb⟩:=hrel;have hz:=hb.size;by_cases hlt:k<ps.length
  · obtain⟨bk,rfl,hbk,hcl⟩:=HA.out (by omega);obtain⟨bk',rfl,hbk',hcl'⟩:=HA'.out (by omega);obtain⟨p,hp⟩:∃p,ps[k]? =some p:=⟨_,List.getElem?_eq_getElem hlt⟩
    have hcr:∀j u,(ps.flatMap pcV)[j]? =some u→wr.cell? ⟨bk,j,none⟩=some u:=fun j u hu=>(hb.cell (p:=⟨bk,j,none⟩) hbk).trans (hcl j u hu);have hcr':∀j u,(ps.flatMap pcV)[j]? =some u→wr.cell? ⟨bk',j,none⟩=some u:=fun j u hu=>(hb.cell (p:=⟨bk',j,none⟩) hbk').trans (hcl' j u hu);obtain⟨c0,c1,c2⟩:=ZB.at_ ZeI hcr hp rfl;obtain⟨d0,d1,d2⟩:=ZB.at_ ZeI hcr' hp rfl;clear hcl hcr hcl' hcr' hp;generalize p.1=p0 at*;generalize B p.2.1=p1 at*;generalize B p.2.2=p2 at*;go_wp2_with fail
    go_quiet (fail)
    go_wp2_with fail
    go_roundw
    case rel=>exact⟨⟨k+1,by omega,by go_num⟩,below_drewN hb _⟩
    case measure=>simp [intOf];omega
  · have hk2:k=ps.length:=by omega
    subst hk2;clear hlt;go_wp2_with fail
    go_ret
    exact⟨rfl,hb⟩
theorem ZoW (A:Option Addr)(n c:Nat)(cs:Int)(t:List UInt8)(ht:t.length≤2000)(ps:List Pc)(hp:ZP Z4 (Zv t)= .inl ps)(hw:Z7 ps=t)(hu:Zap t=true)(hb:Lib.hasPrefix t [239,187,191]=false)(hn:ps.length≤1000000)(w:World)(hG:Grd w)(hv:ZB pcV w (.slice A n c) ps):
 Calls Tryz.prog 42 #[.agg (TT 7 (.slice A n c) cs)] w fun e w'=>e= .returned (.tuple #[.string (B t),.agg #[.int .i64 0,.int .i64 0]])∧Below w.heap.size w w':=by
 have hwh:=fun w hv=>Zqj (.slice A n c) ps w hv hn (by rw [hw];omega);rw [hw] at hwh;have hva:=fun w hT=>Zjy t (by omega) w hT;rw [hu] at hva;have hpc:=fun w=>ZjB t ht ps hp w;have heq:=fun v' w hv hv'=>Zol v' (.slice A n c) ps w hv hv' hn;have hbd:=fun w=>Zdc 0 0 rfl w;have hhp:∀w,Calls Tryz.prog 56 #[.string (B t),.string ⟨#[239,187,191]⟩] w fun e w'=>e= .returned (.bool false)∧w=w':=fun w=>(Tryz.strings_HasPrefix (B t) _ w).mono fun e w' h=>⟨by rw [h.1,ZQ,←hb],h.2.symm⟩
 clear hw hu hp hb hn;have bT:=Lib.hid ((Bx.new w (TT 7 (.slice A n c) cs) 74).alloc (.cells #[.int .i64 0,.int .i64 0] 33));have bF:=Lib.hid (Bx.new (w.alloc (.cells (TT 7 (.slice A n c) cs) 74)) #[.int .i64 0,.int .i64 0] 33);rw [World.size_alloc] at bF;have L0:Hid (Below w.heap.size w ((w.alloc (.cells (TT 7 (.slice A n c) cs) 74)).alloc (.cells #[.int .i64 0,.int .i64 0] 33))):=Lib.hid (((Below.refl _ _).alloc (Nat.le_refl _) _).alloc (by simp) _);have HV:=Lib.hid hv;have HG:=Lib.hid hG;clear hv hG;generalize B t=TX at*;go_enter Tryz.func42,Tryz.ntmps42
 go_upto_region 1 with fail
 generalize ((w.alloc _).alloc _)=w0 at*;have t0:w0.cell? ⟨w.heap.size,0,none⟩=some (.int .i64 7):=bT.out.cell 0;have t23:w0.cell? ⟨w.heap.size,23,none⟩=some (.slice A n c):=bT.out.cell 23;go_upto_region 2 with(go_at_call 94;refine(hwh _ (HV.out.below L0.out)).mono ?_;clear hwh;rintro e w1 ⟨rfl,hb1⟩;have bT1:=Lib.hid (bT.out.below hb1);have bF1:=Lib.hid (bF.out.below hb1);have L1:=Lib.hid (L0.out.trans (hb1.mono L0.out.size));clear hb1 bT bF L0 t0 t23)
 go_upto_region 4 with(go_at_call 95;refine(hva _ (HG.out.below L1.out).tabs).mono ?_;clear hva;rintro e w2 ⟨rfl,hb2⟩;have bT2:=Lib.hid (bT1.out.below hb2);have bF2:=Lib.hid (bF1.out.below hb2);have L2:=Lib.hid (L1.out.trans (hb2.mono L1.out.size));clear hb2 bT1 bF1 L1)
 have t0:w2.cell? ⟨w.heap.size,0,none⟩=some (.int .i64 7):=bT2.out.cell 0;go_upto_region 5 with(go_at_call 85;refine(hpc _).mono ?_;clear hpc;rintro e w3 ⟨A2,c2,rfl,hr3,hb3⟩;have R3:=Lib.hid (ZmO hr3);have bT3:=Lib.hid (bT2.out.below hb3);have bF3:=Lib.hid (bF2.out.below hb3);have L3:=Lib.hid (L2.out.trans (hb3.mono L2.out.size));clear hr3 hb3 bT2 bF2 L2 t0)
 have E4:=Lib.hid (Bx.new w3 #[.int .i64 0,.int .i64 0] 33);have A4:=Lib.hid ((Below.refl w3.heap.size w3).alloc (Nat.le_refl _) (.cells #[.int .i64 0,.int .i64 0] 33));have bT4:=Lib.hid (bT3.out.below A4.out);have bF4:=Lib.hid (bF3.out.below A4.out);have R4:=Lib.hid (R3.out.below A4.out);have L4:=Lib.hid (L3.out.trans (A4.out.mono L3.out.size));clear A4 bT3 bF3 R3 L3;generalize (w3.alloc (.cells #[.int .i64 0,.int .i64 0] 33))=w4 at*;generalize w3.heap.size=K at*;have e0:=E4.out.cell 0;have e1:=E4.out.cell 1;have g0:=E4.out.free 0;have g1:=E4.out.free 1;go_upto_region 7 with(go_at_call 10;refine(hbd _).mono ?_;rintro e w5 ⟨rfl,hb5⟩;have bT5:=Lib.hid (bT4.out.below hb5);have bF5:=Lib.hid (bF4.out.below hb5);have R5:=Lib.hid (R4.out.below hb5);have L5:=Lib.hid (L4.out.trans (hb5.mono L4.out.size));clear hb5 E4 bT4 bF4 R4 L4 e0 e1 g0 g1)
 have t23:w5.cell? ⟨w.heap.size,23,none⟩=some (.slice A n c):=bT5.out.cell 23;go_upto_region 9 with(go_at_call 96;refine(heq _ _ R5.out (HV.out.below L5.out)).mono ?_;clear heq;rintro e w6 ⟨rfl,hb6⟩;have bT6:=Lib.hid (bT5.out.below hb6);have bF6:=Lib.hid (bF5.out.below hb6);have L6:=Lib.hid (L5.out.trans (hb6.mono L5.out.size));clear hb6 bT5 bF5 R5 L5 t23)
 have f0:=bF6.out.cell 0;have f1:=bF6.out.cell 1;have h0:=bF6.out.free 0;have h1:=bF6.out.free 1;go_wp2_with (go_at_call 56;refine(hhp _).mono ?_;clear hhp;rintro e w7 ⟨rfl,rfl⟩)
 have z:=ZdL bF6.out (.int .i64 0) (.int .i64 0);refine bodyPost_ret (ZmK rfl _ _ (w.heap.size+1) _ _ _ _ _ rfl rfl z Tryz.underlying33 rfl (by kernel_rfl)) rfl ⟨rfl,?_⟩;exact(L6.out.setCell (p:=⟨w.heap.size+1,0,none⟩) (Nat.le_succ _) _).setCell (p:=⟨w.heap.size+1,1,none⟩) (Nat.le_succ _) _
theorem Zp7 (vp:Value)(cs:Int)(s:ByteArray)(x y:Int)(w:World)
 (h:∀wx,Below w.heap.size w wx→Calls Tryz.prog 42 #[.agg (TT 7 vp cs)] wx fun e w'=>e= .returned (.tuple #[.string s,.agg #[.int .i64 x,.int .i64 y]])∧Below wx.heap.size wx w'):
 Calls Tryz.prog 20 #[.agg (TT 7 vp cs)] w fun e w'=>e= .returned (.tuple #[.string s,.agg #[.int .i64 x,.int .i64 y]])∧Below w.heap.size w w':=by
 generalize hT:TT 7 vp cs=T at*;have hs:T.size=25:=by rw [←hT];rfl
 have hk:T[0]? =some (.int .i64 7):=by rw [←hT];rfl
 have hB0:Below w.heap.size w ((w.alloc (.cells T 74)).alloc (.cells #[.int .i64 0,.int .i64 0] 33)):=((Below.refl _ _).alloc (Nat.le_refl _) _).alloc (by simp) _;have HB0:=Lib.hid hB0;have h2:=h _ hB0;have bx:Bx ((w.alloc (.cells T 74)).alloc (.cells #[.int .i64 0,.int .i64 0] 33)) w.heap.size T 74:=(Bx.new w _ _).alloc _;have c0:((w.alloc (.cells T 74)).alloc (.cells #[.int .i64 0,.int .i64 0] 33)).cell? ⟨w.heap.size,0,none⟩=some (.int .i64 7):=by rw [bx.cell 0,hk]
 clear h hB0 hT;go_enter Tryz.func20,Tryz.ntmps20
 go_wp2_with (first
  |(refine wpList_load_row rfl 74 _ rfl w.heap.size rfl 74 T (0,0) _ bx Tryz.underlying74 rfl (by rw [hs];kernel_rfl) ?_)
  |(go_at_call 42;refine h2.mono ?_;clear h2;rintro e w1 ⟨rfl,hb⟩;have hq:=F2 hb;rw [World.size_alloc] at hq;have HF:=Lib.hid hq;have HB:=Lib.hid (HB0.out.trans (hb.mono HB0.out.size));obtain⟨q0,q1,f0,f1⟩:=ZbL hq;clear hb hq))
 refine bodyPost_ret (v:= .tuple #[.string s,.agg #[.int .i64 x,.int .i64 y]]) ?_ rfl ⟨rfl,?_⟩
 · have h1:Bx w1 (w.heap.size+1) #[.int .i64 0,.int .i64 0] 33:=HF.out;have h3:=(h1.put 0 (.int .i64 x)).put 1 (.int .i64 y);have p0:=h3.cell 0;have p1:=h3.cell 1;simp only [Array.getElem?_setIfInBounds] at p0 p1;simp [results,Tryz.results20,go_sem,p0,p1]
 · exact(HB.out.setCell (Nat.le_succ _) _).setCell (Nat.le_succ _) _
end Go.Proofs.YtlfinljfghhpdaaGreatDoor
