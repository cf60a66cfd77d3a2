/- Lemmas for a statement on the tops; conditions: as each says. -/
import Derived.Test.YtecandjkbbpooaaGreatDoorM33
set_option linter.unusedVariables false
set_option linter.unusedSimpArgs false
set_option maxRecDepth 100000
set_option maxHeartbeats 4000000
namespace Go.Proofs.YtecandjkbbpooaaGreatDoor
open Go Go.RowKit
def dplus (k:Nat):ZaB→ZaB
 | .inl ps=> .inl ps
 | .inr n=> .inr (n+k)
def Zb8 (l:List UInt8):ZaB:=if l=[] then .inl [] else if Zbs l=false then .inr 0 else dplus 2 (ZbY (Zak l) (l.drop 2))
theorem Zj2 (l:List UInt8):behind (B l)=B (l.drop 2):=by
 unfold behind;rw [Zl,ZcJ,List.take_of_length_le (by simp)]
theorem Zjg (l:List UInt8)(hl:l.length≤100000)(w:World):
 Calls Tryz.prog 213 #[.string (B l)] w (Za4 (Zb8 l) w):=by
 have hsz:=Zl l;unfold Zb8;by_cases h0:l=[]
 · subst h0;rw [if_pos rfl];exact Zoc w
 rw [if_neg h0];have hpos:0<(B l).size:=by rw [hsz];exact List.length_pos_iff.2 h0
 cases hm:Zbs l with
 |false=>
  rw [if_pos rfl];exact Zoe (B l) hpos (by omega) (by rw [ZaA];exact hm) w
 |true=>
  rw [if_neg (by decide)];rcases ZmY (Zak l) (l.drop 2) with⟨ps,h,e⟩|⟨n,h,e⟩
  · rw [e];exact(Zod (B l) ps (by rw [ZaA];exact hm) (by rw [ZaA,Zj2];exact h) (by omega) w).mono fun e w' h=>⟨h.1,h.2⟩
  · rw [e];exact(Zob (B l) n (by rw [ZaA];exact hm) (by rw [ZaA,Zj2];exact h) (by omega) w).mono fun e w' h=>⟨h.1,h.2⟩
def wdR (set:Nat):ZaB→Except (Nat×Nat) (List UInt8×Nat)
 | .inl ps=> .ok (Zc ps,set)
 | .inr n=> .error (2,n)
noncomputable def wdF (fb:Nat)(det:Bool)(enc:Nat)(l:List UInt8):Except (Nat×Nat) (List UInt8×Nat):=
 if enc=0 then wdR (Zmr l [] fb det) (Zcv (Zmr l [] fb det) l) else if enc=1 then wdR (if Zak l then 9 else 8) (Zb8 l) else if enc=2 then wdR 9 (ZbY true l) else wdR 7 (Zcl l)
def Zcr (K:Nat)(s:InS)(k:Nat)(r:Except (Nat×Nat) (List UInt8×Nat))(w:World)(e:Ending)(w':World):Prop:=
 match r with
 | .ok t=>Zf K w (.tuple #[.string (B t.1),.int .i64 (t.2:Nat)]) s e w'
 | .error x=>Zf K w (.tuple #[.string ⟨#[]⟩,.int .i64 0]) (s.fail x.1 (k+x.2)) e w'
theorem Zm0 (big:Bool)(l:List UInt8)(n:Nat)(h:ZbY big l= .inr n):n≤l.length:=by
 rcases ZmY big l with⟨qs,hq,e⟩|⟨m,hq,e⟩
 · rw [e] at h;cases h
 · rw [e] at h;injection h with h;subst h
   obtain⟨ps,r,⟨h1,_⟩,h3,_⟩:=hq;have:=congrArg List.length h1;simp at this;omega
theorem Zqd {c:Nat} (l:List UInt8)(n:Nat)(h:Zcv c l= .inr n):n≤l.length:=by
 unfold Zcv at h;split at h
 · cases h
 · split at h
   · have:=ZhA _ l 0 n h;omega
   · split at h
     · rcases Zdx l with⟨qs,hq,e⟩|⟨m,hq,e⟩
       · rw [e] at h;cases h
       · rw [e] at h;injection h with h;subst h
         have h1:=hq.lt;have h2:(⟨l.toArray⟩:ByteArray).size=l.length:=Zl l;omega
     · exact Zm0 _ l n h
theorem Zlo (l:List UInt8)(n:Nat)(h:Zb8 l= .inr n):n≤l.length+2:=by
 unfold Zb8 at h;split at h
 · cases h
 · split at h
   · injection h with h;omega
   · have hb:=Zm0 (Zak l) (l.drop 2);generalize ZbY (Zak l) (l.drop 2)=r at*;cases r with
     |inl ps=>cases h
     |inr m=>injection h with h;subst h;have:=hb m rfl;simp at this;omega
theorem Zpl (K:Nat)(s:InS)(kd bud:Int)(fb:Nat)(det:Bool)(l:List UInt8)(hl:l.length≤100000)(k:Nat)(hk:k≤1000000000)(w:World)(hG:Grd w)(h:InAt w K s)(hfb:fb≤9)(hB:Zak l=true):
 Calls Tryz.prog 197 #[.agg #[.pointer (some ⟨K,0,none⟩),.int .u8 1,.int .i64 kd,.int .i64 fb,.bool det,.int .i64 bud],.string (B l),.int .i64 k] w (Zcr K s k (wdF fb det 1 l) w):=by
 have hlt:=h.lt;have X0:Hid (Bx ((w.alloc (.cells #[.pointer (some ⟨K,0,none⟩),.int .u8 1,.int .i64 kd,.int .i64 fb,.bool det,.int .i64 bud] 166)).alloc (.cells #[.int .i64 0,.int .i64 0] 62)) w.heap.size #[.pointer (some ⟨K,0,none⟩),.int .u8 1,.int .i64 kd,.int .i64 fb,.bool det,.int .i64 bud] 166):=Lib.hid ((Bx.new w _ _).alloc _);have Y0:Hid (Bx ((w.alloc (.cells #[.pointer (some ⟨K,0,none⟩),.int .u8 1,.int .i64 kd,.int .i64 fb,.bool det,.int .i64 bud] 166)).alloc (.cells #[.int .i64 0,.int .i64 0] 62)) (w.heap.size+1) #[.int .i64 0,.int .i64 0] 62):=Lib.hid (by have:=Bx.new (w.alloc (.cells #[.pointer (some ⟨K,0,none⟩),.int .u8 1,.int .i64 kd,.int .i64 fb,.bool det,.int .i64 bud] 166)) #[.int .i64 0,.int .i64 0] 62;rw [World.size_alloc] at this;exact this);have H0:=Lib.hid ((h.alloc (.cells #[.pointer (some ⟨K,0,none⟩),.int .u8 1,.int .i64 kd,.int .i64 fb,.bool det,.int .i64 bud] 166)).alloc (.cells #[.int .i64 0,.int .i64 0] 62));have L0:Hid (Below w.heap.size w ((w.alloc (.cells #[.pointer (some ⟨K,0,none⟩),.int .u8 1,.int .i64 kd,.int .i64 fb,.bool det,.int .i64 bud] 166)).alloc (.cells #[.int .i64 0,.int .i64 0] 62))):=Lib.hid (((Below.refl _ w).alloc (Nat.le_refl _) _).alloc (by simp) _);have G0:=Lib.hid ((hG.alloc (.cells #[.pointer (some ⟨K,0,none⟩),.int .u8 1,.int .i64 kd,.int .i64 fb,.bool det,.int .i64 bud] 166)).alloc (.cells #[.int .i64 0,.int .i64 0] 62));have hw:Zak l=true→wdF fb det 1 l=wdR 9 (Zb8 l):=fun hB=>by unfold wdF;rw [if_neg (by decide),if_pos rfl,hB];rfl
 rw [hw hB];clear hw;have hmk:=fun w=>ZeW (B l) (by rw [Zl];omega) w;rw [ZaA,hB] at hmk;have hde:=fun w=>Zjg l hl w;have hnn:∀n,Zb8 l= .inr n→n≤1000000:=fun n hn=>by have:=Zlo l n hn;omega
 generalize Zb8 l=r at*;generalize Zbs l=im at*;unfold Za4 at hde;cases r with
 |inl ps=>
  unfold D2V at hde;simp only at hde;have hbd:=fun w=>ZT 0 0 rfl w;generalize hP:Zcr K s k (wdR 9 (.inl ps)) w=P at*;have hP2:∀w',InAt w' K s→But K w.heap.size w w'→P (.returned (.tuple #[.string (B (Zc ps)),.int .i64 (9:Nat)])) w':=fun w' h1 h2=>by rw [←hP];exact⟨rfl,h1,h2⟩
  have HP:=Lib.hid hP2;clear hP hP2;generalize B (Zc ps)=T at*;go_enter Tryz.func197,Tryz.ntmps197
  go_wp2_with (first
   |(go_at_call 258;refine(hmk _).mono ?_;rintro e w1 ⟨rfl,hb1⟩;have X1:=Lib.hid (X0.out.below hb1);have Y1:=Lib.hid (Y0.out.below hb1);have H1:=Lib.hid (H0.out.below hb1);have L1:=Lib.hid (L0.out.trans (hb1.mono L0.out.size));clear hb1)
   |(go_at_call 213;refine(hde _).mono ?_;rintro e w2 ⟨rfl,hb2⟩;have X2:=Lib.hid (X1.out.below hb2);have Y2:=Lib.hid (Y1.out.below hb2);have H2:=Lib.hid (H1.out.below hb2);have L2:=Lib.hid (L1.out.trans (hb2.mono L1.out.size));clear hb2;have y0:=Y2.out.cell 0;have y1:=Y2.out.cell 1;have g0:=Y2.out.free 0;have g1:=Y2.out.free 1)
   |(go_at_call 7;refine(hbd _).mono ?_;rintro e w3 ⟨rfl,hb3⟩;have X3:=Lib.hid (((X2.out.set (k:=w.heap.size+1) (by omega) 0 _).set (k:=w.heap.size+1) (by omega) 1 _).below hb3);have Y3:=Lib.hid (((Y2.out.put 0 _).put 1 _).below hb3);have H3:=Lib.hid (((H2.out.set (g:=w.heap.size+1) (by omega) 0 _).set (g:=w.heap.size+1) (by omega) 1 _).below hb3);have L3:=Lib.hid (((L2.out.setCell (p:=⟨w.heap.size+1,0,none⟩) (Nat.le_succ _) _).setCell (p:=⟨w.heap.size+1,1,none⟩) (Nat.le_succ _) _).trans (hb3.mono (by have:=L2.out.size;simpa [World.setCell] using this)));clear hb3;have x30:=X3.out.cell 0;have y30:=Y3.out.cell 0;have y31:=Y3.out.cell 1)
   |(go_at_call 110;refine(hfa _ H3.out).mono ?_;rintro e w4 ⟨rfl,h4,hb4⟩))
  exact HP.out _ H3.out (.of L3.out)
 |inr n=>
  unfold D2V at hde;simp only at hde;have hbd:=fun w=>Zaq 2 n (by decide) w;have hn9:n≤1000000:=hnn n rfl;have hfa:=fun w h=>Za5 K s 2 ((k:Int)+n) (by decide) (by omega) w h;rw [show((2:Int).toNat)=2 from rfl,show((k:Int)+n).toNat=k+n by omega] at hfa;unfold Zf at hfa;generalize hP:Zcr K s k (wdR 9 (.inr n)) w=P at*;have hP2:∀w',InAt w' K (s.fail 2 (k+n))→But K w.heap.size w w'→P (.returned (.tuple #[.string ⟨#[]⟩,.int .i64 0])) w':=fun w' h1 h2=>by rw [←hP];exact⟨rfl,h1,h2⟩
  have HP:=Lib.hid hP2;clear hP hP2;go_enter Tryz.func197,Tryz.ntmps197
  go_wp2_with (first
   |(go_at_call 258;refine(hmk _).mono ?_;rintro e w1 ⟨rfl,hb1⟩;have X1:=Lib.hid (X0.out.below hb1);have Y1:=Lib.hid (Y0.out.below hb1);have H1:=Lib.hid (H0.out.below hb1);have L1:=Lib.hid (L0.out.trans (hb1.mono L0.out.size));clear hb1)
   |(go_at_call 213;refine(hde _).mono ?_;rintro e w2 ⟨rfl,hb2⟩;have X2:=Lib.hid (X1.out.below hb2);have Y2:=Lib.hid (Y1.out.below hb2);have H2:=Lib.hid (H1.out.below hb2);have L2:=Lib.hid (L1.out.trans (hb2.mono L1.out.size));clear hb2;have y0:=Y2.out.cell 0;have y1:=Y2.out.cell 1;have g0:=Y2.out.free 0;have g1:=Y2.out.free 1)
   |(go_at_call 7;refine(hbd _).mono ?_;rintro e w3 ⟨rfl,hb3⟩;have X3:=Lib.hid (((X2.out.set (k:=w.heap.size+1) (by omega) 0 _).set (k:=w.heap.size+1) (by omega) 1 _).below hb3);have Y3:=Lib.hid (((Y2.out.put 0 _).put 1 _).below hb3);have H3:=Lib.hid (((H2.out.set (g:=w.heap.size+1) (by omega) 0 _).set (g:=w.heap.size+1) (by omega) 1 _).below hb3);have L3:=Lib.hid (((L2.out.setCell (p:=⟨w.heap.size+1,0,none⟩) (Nat.le_succ _) _).setCell (p:=⟨w.heap.size+1,1,none⟩) (Nat.le_succ _) _).trans (hb3.mono (by have:=L2.out.size;simpa [World.setCell] using this)));clear hb3;have x30:=X3.out.cell 0;have y30:=Y3.out.cell 0;have y31:=Y3.out.cell 1)
   |(go_at_call 110;refine(hfa _ H3.out).mono ?_;rintro e w4 ⟨rfl,h4,hb4⟩))
  exact HP.out _ h4 ((But.of L3.out).trans (hb4.mono L3.out.size))
theorem Zpk (K:Nat)(s:InS)(kd bud:Int)(fb:Nat)(det:Bool)(l:List UInt8)(hl:l.length≤100000)(k:Nat)(hk:k≤1000000000)(w:World)(hG:Grd w)(h:InAt w K s)(hfb:fb≤9)(hB:Zak l=false):
 Calls Tryz.prog 197 #[.agg #[.pointer (some ⟨K,0,none⟩),.int .u8 1,.int .i64 kd,.int .i64 fb,.bool det,.int .i64 bud],.string (B l),.int .i64 k] w (Zcr K s k (wdF fb det 1 l) w):=by
 have hlt:=h.lt;have X0:Hid (Bx ((w.alloc (.cells #[.pointer (some ⟨K,0,none⟩),.int .u8 1,.int .i64 kd,.int .i64 fb,.bool det,.int .i64 bud] 166)).alloc (.cells #[.int .i64 0,.int .i64 0] 62)) w.heap.size #[.pointer (some ⟨K,0,none⟩),.int .u8 1,.int .i64 kd,.int .i64 fb,.bool det,.int .i64 bud] 166):=Lib.hid ((Bx.new w _ _).alloc _);have Y0:Hid (Bx ((w.alloc (.cells #[.pointer (some ⟨K,0,none⟩),.int .u8 1,.int .i64 kd,.int .i64 fb,.bool det,.int .i64 bud] 166)).alloc (.cells #[.int .i64 0,.int .i64 0] 62)) (w.heap.size+1) #[.int .i64 0,.int .i64 0] 62):=Lib.hid (by have:=Bx.new (w.alloc (.cells #[.pointer (some ⟨K,0,none⟩),.int .u8 1,.int .i64 kd,.int .i64 fb,.bool det,.int .i64 bud] 166)) #[.int .i64 0,.int .i64 0] 62;rw [World.size_alloc] at this;exact this);have H0:=Lib.hid ((h.alloc (.cells #[.pointer (some ⟨K,0,none⟩),.int .u8 1,.int .i64 kd,.int .i64 fb,.bool det,.int .i64 bud] 166)).alloc (.cells #[.int .i64 0,.int .i64 0] 62));have L0:Hid (Below w.heap.size w ((w.alloc (.cells #[.pointer (some ⟨K,0,none⟩),.int .u8 1,.int .i64 kd,.int .i64 fb,.bool det,.int .i64 bud] 166)).alloc (.cells #[.int .i64 0,.int .i64 0] 62))):=Lib.hid (((Below.refl _ w).alloc (Nat.le_refl _) _).alloc (by simp) _);have G0:=Lib.hid ((hG.alloc (.cells #[.pointer (some ⟨K,0,none⟩),.int .u8 1,.int .i64 kd,.int .i64 fb,.bool det,.int .i64 bud] 166)).alloc (.cells #[.int .i64 0,.int .i64 0] 62));have hw:Zak l=false→wdF fb det 1 l=wdR 8 (Zb8 l):=fun hB=>by unfold wdF;rw [if_neg (by decide),if_pos rfl,hB];rfl
 rw [hw hB];clear hw;have hmk:=fun w=>ZeW (B l) (by rw [Zl];omega) w;rw [ZaA,hB] at hmk;have hde:=fun w=>Zjg l hl w;have hnn:∀n,Zb8 l= .inr n→n≤1000000:=fun n hn=>by have:=Zlo l n hn;omega
 generalize Zb8 l=r at*;generalize Zbs l=im at*;unfold Za4 at hde;cases r with
 |inl ps=>
  unfold D2V at hde;simp only at hde;have hbd:=fun w=>ZT 0 0 rfl w;generalize hP:Zcr K s k (wdR 8 (.inl ps)) w=P at*;have hP2:∀w',InAt w' K s→But K w.heap.size w w'→P (.returned (.tuple #[.string (B (Zc ps)),.int .i64 (8:Nat)])) w':=fun w' h1 h2=>by rw [←hP];exact⟨rfl,h1,h2⟩
  have HP:=Lib.hid hP2;clear hP hP2;generalize B (Zc ps)=T at*;go_enter Tryz.func197,Tryz.ntmps197
  go_wp2_with (first
   |(go_at_call 258;refine(hmk _).mono ?_;rintro e w1 ⟨rfl,hb1⟩;have X1:=Lib.hid (X0.out.below hb1);have Y1:=Lib.hid (Y0.out.below hb1);have H1:=Lib.hid (H0.out.below hb1);have L1:=Lib.hid (L0.out.trans (hb1.mono L0.out.size));clear hb1)
   |(go_at_call 213;refine(hde _).mono ?_;rintro e w2 ⟨rfl,hb2⟩;have X2:=Lib.hid (X1.out.below hb2);have Y2:=Lib.hid (Y1.out.below hb2);have H2:=Lib.hid (H1.out.below hb2);have L2:=Lib.hid (L1.out.trans (hb2.mono L1.out.size));clear hb2;have y0:=Y2.out.cell 0;have y1:=Y2.out.cell 1;have g0:=Y2.out.free 0;have g1:=Y2.out.free 1)
   |(go_at_call 7;refine(hbd _).mono ?_;rintro e w3 ⟨rfl,hb3⟩;have X3:=Lib.hid (((X2.out.set (k:=w.heap.size+1) (by omega) 0 _).set (k:=w.heap.size+1) (by omega) 1 _).below hb3);have Y3:=Lib.hid (((Y2.out.put 0 _).put 1 _).below hb3);have H3:=Lib.hid (((H2.out.set (g:=w.heap.size+1) (by omega) 0 _).set (g:=w.heap.size+1) (by omega) 1 _).below hb3);have L3:=Lib.hid (((L2.out.setCell (p:=⟨w.heap.size+1,0,none⟩) (Nat.le_succ _) _).setCell (p:=⟨w.heap.size+1,1,none⟩) (Nat.le_succ _) _).trans (hb3.mono (by have:=L2.out.size;simpa [World.setCell] using this)));clear hb3;have x30:=X3.out.cell 0;have y30:=Y3.out.cell 0;have y31:=Y3.out.cell 1)
   |(go_at_call 110;refine(hfa _ H3.out).mono ?_;rintro e w4 ⟨rfl,h4,hb4⟩))
  exact HP.out _ H3.out (.of L3.out)
 |inr n=>
  unfold D2V at hde;simp only at hde;have hbd:=fun w=>Zaq 2 n (by decide) w;have hn9:n≤1000000:=hnn n rfl;have hfa:=fun w h=>Za5 K s 2 ((k:Int)+n) (by decide) (by omega) w h;rw [show((2:Int).toNat)=2 from rfl,show((k:Int)+n).toNat=k+n by omega] at hfa;unfold Zf at hfa;generalize hP:Zcr K s k (wdR 8 (.inr n)) w=P at*;have hP2:∀w',InAt w' K (s.fail 2 (k+n))→But K w.heap.size w w'→P (.returned (.tuple #[.string ⟨#[]⟩,.int .i64 0])) w':=fun w' h1 h2=>by rw [←hP];exact⟨rfl,h1,h2⟩
  have HP:=Lib.hid hP2;clear hP hP2;go_enter Tryz.func197,Tryz.ntmps197
  go_wp2_with (first
   |(go_at_call 258;refine(hmk _).mono ?_;rintro e w1 ⟨rfl,hb1⟩;have X1:=Lib.hid (X0.out.below hb1);have Y1:=Lib.hid (Y0.out.below hb1);have H1:=Lib.hid (H0.out.below hb1);have L1:=Lib.hid (L0.out.trans (hb1.mono L0.out.size));clear hb1)
   |(go_at_call 213;refine(hde _).mono ?_;rintro e w2 ⟨rfl,hb2⟩;have X2:=Lib.hid (X1.out.below hb2);have Y2:=Lib.hid (Y1.out.below hb2);have H2:=Lib.hid (H1.out.below hb2);have L2:=Lib.hid (L1.out.trans (hb2.mono L1.out.size));clear hb2;have y0:=Y2.out.cell 0;have y1:=Y2.out.cell 1;have g0:=Y2.out.free 0;have g1:=Y2.out.free 1)
   |(go_at_call 7;refine(hbd _).mono ?_;rintro e w3 ⟨rfl,hb3⟩;have X3:=Lib.hid (((X2.out.set (k:=w.heap.size+1) (by omega) 0 _).set (k:=w.heap.size+1) (by omega) 1 _).below hb3);have Y3:=Lib.hid (((Y2.out.put 0 _).put 1 _).below hb3);have H3:=Lib.hid (((H2.out.set (g:=w.heap.size+1) (by omega) 0 _).set (g:=w.heap.size+1) (by omega) 1 _).below hb3);have L3:=Lib.hid (((L2.out.setCell (p:=⟨w.heap.size+1,0,none⟩) (Nat.le_succ _) _).setCell (p:=⟨w.heap.size+1,1,none⟩) (Nat.le_succ _) _).trans (hb3.mono (by have:=L2.out.size;simpa [World.setCell] using this)));clear hb3;have x30:=X3.out.cell 0;have y30:=Y3.out.cell 0;have y31:=Y3.out.cell 1)
   |(go_at_call 110;refine(hfa _ H3.out).mono ?_;rintro e w4 ⟨rfl,h4,hb4⟩))
  exact HP.out _ h4 ((But.of L3.out).trans (hb4.mono L3.out.size))
theorem Words3 (K:Nat)(s:InS)(en:Nat)(hen:3≤en∧en≤255)(kd bud:Int)(fb:Nat)(det:Bool)(l:List UInt8)(hl:l.length≤100000)(k:Nat)(hk:k≤1000000000)(w:World)(hG:Grd w)(h:InAt w K s)(hfb:fb≤9):
 Calls Tryz.prog 197 #[.agg #[.pointer (some ⟨K,0,none⟩),.int .u8 en,.int .i64 kd,.int .i64 fb,.bool det,.int .i64 bud],.string (B l),.int .i64 k] w (Zcr K s k (wdF fb det en l) w):=by
 have hlt:=h.lt;have X0:Hid (Bx ((w.alloc (.cells #[.pointer (some ⟨K,0,none⟩),.int .u8 en,.int .i64 kd,.int .i64 fb,.bool det,.int .i64 bud] 166)).alloc (.cells #[.int .i64 0,.int .i64 0] 62)) w.heap.size #[.pointer (some ⟨K,0,none⟩),.int .u8 en,.int .i64 kd,.int .i64 fb,.bool det,.int .i64 bud] 166):=Lib.hid ((Bx.new w _ _).alloc _);have Y0:Hid (Bx ((w.alloc (.cells #[.pointer (some ⟨K,0,none⟩),.int .u8 en,.int .i64 kd,.int .i64 fb,.bool det,.int .i64 bud] 166)).alloc (.cells #[.int .i64 0,.int .i64 0] 62)) (w.heap.size+1) #[.int .i64 0,.int .i64 0] 62):=Lib.hid (by have:=Bx.new (w.alloc (.cells #[.pointer (some ⟨K,0,none⟩),.int .u8 en,.int .i64 kd,.int .i64 fb,.bool det,.int .i64 bud] 166)) #[.int .i64 0,.int .i64 0] 62;rw [World.size_alloc] at this;exact this);have H0:=Lib.hid ((h.alloc (.cells #[.pointer (some ⟨K,0,none⟩),.int .u8 en,.int .i64 kd,.int .i64 fb,.bool det,.int .i64 bud] 166)).alloc (.cells #[.int .i64 0,.int .i64 0] 62));have L0:Hid (Below w.heap.size w ((w.alloc (.cells #[.pointer (some ⟨K,0,none⟩),.int .u8 en,.int .i64 kd,.int .i64 fb,.bool det,.int .i64 bud] 166)).alloc (.cells #[.int .i64 0,.int .i64 0] 62))):=Lib.hid (((Below.refl _ w).alloc (Nat.le_refl _) _).alloc (by simp) _);have G0:=Lib.hid ((hG.alloc (.cells #[.pointer (some ⟨K,0,none⟩),.int .u8 en,.int .i64 kd,.int .i64 fb,.bool det,.int .i64 bud] 166)).alloc (.cells #[.int .i64 0,.int .i64 0] 62));have hw:wdF fb det en l=wdR 7 (Zcv 7 l):=by unfold wdF Zcv;rw [if_neg (by omega),if_neg (by omega),if_neg (by omega)];rfl
 rw [hw];clear hw;have q0:((en:Int)==0)=false:=by rw [beq_eq_false_iff_ne];omega
 have q1:((en:Int)==1)=false:=by rw [beq_eq_false_iff_ne];omega
 have q2:((en:Int)==2)=false:=by rw [beq_eq_false_iff_ne];omega
 clear hen;have hde:=fun w hG=>Znm l hl w hG;have hnn:∀n,Zcv 7 l= .inr n→n≤1000000:=fun n hn=>by have:=Zqd l n hn;omega
 generalize Zcv 7 l=r at*;unfold Za4 at hde;cases r with
 |inl ps=>
  unfold D2V at hde;simp only at hde;have hbd:=fun w=>ZT 0 0 rfl w;generalize hP:Zcr K s k (wdR 7 (.inl ps)) w=P at*;have hP2:∀w',InAt w' K s→But K w.heap.size w w'→P (.returned (.tuple #[.string (B (Zc ps)),.int .i64 (7:Nat)])) w':=fun w' h1 h2=>by rw [←hP];exact⟨rfl,h1,h2⟩
  have HP:=Lib.hid hP2;clear hP hP2;generalize B (Zc ps)=T at*;go_enter Tryz.func197,Tryz.ntmps197
  go_wp2_with (first
   |(go_at_call 64;refine(hde _ G0.out).mono ?_;rintro e w2 ⟨rfl,hb2⟩;have X2:=Lib.hid (X0.out.below hb2);have Y2:=Lib.hid (Y0.out.below hb2);have H2:=Lib.hid (H0.out.below hb2);have L2:=Lib.hid (L0.out.trans (hb2.mono L0.out.size));clear hb2;have y0:=Y2.out.cell 0;have y1:=Y2.out.cell 1;have g0:=Y2.out.free 0;have g1:=Y2.out.free 1)
   |(go_at_call 7;refine(hbd _).mono ?_;rintro e w3 ⟨rfl,hb3⟩;have X3:=Lib.hid (((X2.out.set (k:=w.heap.size+1) (by omega) 0 _).set (k:=w.heap.size+1) (by omega) 1 _).below hb3);have Y3:=Lib.hid (((Y2.out.put 0 _).put 1 _).below hb3);have H3:=Lib.hid (((H2.out.set (g:=w.heap.size+1) (by omega) 0 _).set (g:=w.heap.size+1) (by omega) 1 _).below hb3);have L3:=Lib.hid (((L2.out.setCell (p:=⟨w.heap.size+1,0,none⟩) (Nat.le_succ _) _).setCell (p:=⟨w.heap.size+1,1,none⟩) (Nat.le_succ _) _).trans (hb3.mono (by have:=L2.out.size;simpa [World.setCell] using this)));clear hb3;have x30:=X3.out.cell 0;have y30:=Y3.out.cell 0;have y31:=Y3.out.cell 1)
   |(go_at_call 110;refine(hfa _ H3.out).mono ?_;rintro e w4 ⟨rfl,h4,hb4⟩))
  exact HP.out _ H3.out (.of L3.out)
 |inr n=>
  unfold D2V at hde;simp only at hde;have hbd:=fun w=>Zaq 2 n (by decide) w;have hn9:n≤1000000:=hnn n rfl;have hfa:=fun w h=>Za5 K s 2 ((k:Int)+n) (by decide) (by omega) w h;rw [show((2:Int).toNat)=2 from rfl,show((k:Int)+n).toNat=k+n by omega] at hfa;unfold Zf at hfa;generalize hP:Zcr K s k (wdR 7 (.inr n)) w=P at*;have hP2:∀w',InAt w' K (s.fail 2 (k+n))→But K w.heap.size w w'→P (.returned (.tuple #[.string ⟨#[]⟩,.int .i64 0])) w':=fun w' h1 h2=>by rw [←hP];exact⟨rfl,h1,h2⟩
  have HP:=Lib.hid hP2;clear hP hP2;go_enter Tryz.func197,Tryz.ntmps197
  go_wp2_with (first
   |(go_at_call 64;refine(hde _ G0.out).mono ?_;rintro e w2 ⟨rfl,hb2⟩;have X2:=Lib.hid (X0.out.below hb2);have Y2:=Lib.hid (Y0.out.below hb2);have H2:=Lib.hid (H0.out.below hb2);have L2:=Lib.hid (L0.out.trans (hb2.mono L0.out.size));clear hb2;have y0:=Y2.out.cell 0;have y1:=Y2.out.cell 1;have g0:=Y2.out.free 0;have g1:=Y2.out.free 1)
   |(go_at_call 7;refine(hbd _).mono ?_;rintro e w3 ⟨rfl,hb3⟩;have X3:=Lib.hid (((X2.out.set (k:=w.heap.size+1) (by omega) 0 _).set (k:=w.heap.size+1) (by omega) 1 _).below hb3);have Y3:=Lib.hid (((Y2.out.put 0 _).put 1 _).below hb3);have H3:=Lib.hid (((H2.out.set (g:=w.heap.size+1) (by omega) 0 _).set (g:=w.heap.size+1) (by omega) 1 _).below hb3);have L3:=Lib.hid (((L2.out.setCell (p:=⟨w.heap.size+1,0,none⟩) (Nat.le_succ _) _).setCell (p:=⟨w.heap.size+1,1,none⟩) (Nat.le_succ _) _).trans (hb3.mono (by have:=L2.out.size;simpa [World.setCell] using this)));clear hb3;have x30:=X3.out.cell 0;have y30:=Y3.out.cell 0;have y31:=Y3.out.cell 1)
   |(go_at_call 110;refine(hfa _ H3.out).mono ?_;rintro e w4 ⟨rfl,h4,hb4⟩))
  exact HP.out _ h4 ((But.of L3.out).trans (hb4.mono L3.out.size))
def Zad (K:Nat)(en:Nat)(kd bud:Int)(fb:Nat)(det:Bool):Array Value:=#[.pointer (some ⟨K,0,none⟩),.int .u8 en,.int .i64 kd,.int .i64 fb,.bool det,.int .i64 bud]
theorem Zi5 (K:Value)(en:Nat)(h:en=1∨en=2)(a b c d:Value)(w:World):
 Calls Tryz.prog 145 #[.agg #[K,.int .u8 en,a,b,c,d]] w fun e w'=>e= .returned (.string ⟨#[0,0]⟩)∧Below w.heap.size w w':=by
 rcases h with rfl|rfl
 all_goals
  go_enter Tryz.func145,Tryz.ntmps145
  go_wp2_with fail
  go_ret
  exact⟨rfl,(Below.refl _ _).alloc (Nat.le_refl _) _⟩
theorem Zi4 (K:Value)(en:Nat)(h:¬(en=1∨en=2))(a b c d:Value)(w:World):
 Calls Tryz.prog 145 #[.agg #[K,.int .u8 en,a,b,c,d]] w fun e w'=>e= .returned (.string ⟨#[0]⟩)∧Below w.heap.size w w':=by
 have q1:((en:Int)==1)=false:=by rw [beq_eq_false_iff_ne];omega
 have q2:((en:Int)==2)=false:=by rw [beq_eq_false_iff_ne];omega
 go_enter Tryz.func145,Tryz.ntmps145
 go_wp2_with fail
 go_ret
 exact⟨rfl,(Below.refl _ _).alloc (Nat.le_refl _) _⟩
def ptA (p:Pt):Array Value:=#[.string (B (ltN p.l)),.bool p.raw,.string (B p.text),.int .i64 (p.set:Nat)]
theorem Zkf {w:World} {p:Addr} {v:Value} (h:w.cell? p=some v):p.block<w.heap.size:=World.block_lt_of_cell? _ _ h
theorem InAt.ne_u8 {w:World} {K:Nat} {s:InS} (h:InAt w K s){g j:Nat} {z:Int} (hc:w.cell? ⟨g,j,none⟩=some (.int .u8 z)):g≠K:=by
 rintro rfl;rw [cell_of_row _ g j _ _ (0,0) h.row] at hc;unfold five at hc
 match j,hc with
 |0,hc=>simp at hc
 |1,hc=>simp at hc
 |2,hc=>simp at hc
 |3,hc=>simp at hc
 |4,hc=>simp at hc
 |j+5,hc=>simp at hc
theorem Grd.but {w w':World} {K:Nat} {s:InS} (h:Grd w)(hi:InAt w K s)(hb:But K w.heap.size w w'):Grd w':=by
 have hu:∀g j z,w.cell? ⟨g,j,none⟩=some (.int .u8 z)→w'.cell? ⟨g,j,none⟩=some (.int .u8 z):=fun g j z hc=>by
  rw [hb.cell (Zkf hc) (hi.ne_u8 hc),hc]
 refine⟨⟨fun c hc=>hu _ _ _ (h.tabs.1 c hc),fun i hi2=>⟨hu _ _ _ (h.tabs.2 i hi2).1,hu _ _ _ (h.tabs.2 i hi2).2⟩⟩,fun j hj=>hu _ _ _ (h.db j hj),?_⟩;obtain⟨m,hm⟩:=h.ml;refine⟨m,?_⟩;rw [hb.cell (Zkf hm) ?_,hm];intro e;have e2:3=K:=e;rw [e2,hi.get.1] at hm;simp at hm
structure PcSt (w wx:World)(K:Nat)(BX:Array Value)(nm:ByteArray)(raw:Bool)(s:InS):Prop where
 sc:Bx wx w.heap.size BX 166
 res:Bx wx (w.heap.size+1) #[.string ⟨#[]⟩,.bool false,.string ⟨#[]⟩,.int .i64 0] 39
 pt:Bx wx (w.heap.size+1+1) #[.string nm,.bool raw,.string ⟨#[]⟩,.int .i64 0] 39
 inn:InAt wx K s
 but:But K w.heap.size w wx
 lt:K<w.heap.size
section
variable {w wx wy:World} {K:Nat} {BX:Array Value} {nm:ByteArray} {raw:Bool} {s s':InS}
theorem PcSt.below (h:PcSt w wx K BX nm raw s)(hb:Below wx.heap.size wx wy):PcSt w wy K BX nm raw s:=
 ⟨h.sc.below hb,h.res.below hb,h.pt.below hb,h.inn.below hb,h.but.trans ((But.of hb).mono h.but.size),h.lt⟩
theorem PcSt.butK (h:PcSt w wx K BX nm raw s)(h2:InAt wy K s')(hb:But K wx.heap.size wx wy):PcSt w wy K BX nm raw s':=
 ⟨h.sc.but hb (by have:=h.lt;omega),h.res.but hb (by have:=h.lt;omega),h.pt.but hb (by have:=h.lt;omega),h2,h.but.trans (hb.mono h.but.size),h.lt⟩
theorem PcSt.drewN (h:PcSt w wx K BX nm raw s)(n:Nat):PcSt w (wx.drewN n) K BX nm raw s:=h.below (below_drewN (Below.refl _ _) n)
theorem PcSt.mk0 (h:InAt w K s)(BX:Array Value)(nm:ByteArray)(raw:Bool):
 PcSt w (((w.alloc (.cells BX 166)).alloc (.cells #[.string ⟨#[]⟩,.bool false,.string ⟨#[]⟩,.int .i64 0] 39)).alloc (.cells #[.string nm,.bool raw,.string ⟨#[]⟩,.int .i64 0] 39)) K BX nm raw s:=by
 have b1:=((Bx.new w BX 166).alloc (.cells #[.string ⟨#[]⟩,.bool false,.string ⟨#[]⟩,.int .i64 0] 39)).alloc (.cells #[.string nm,.bool raw,.string ⟨#[]⟩,.int .i64 0] 39);have b2:=(Bx.new (w.alloc (.cells BX 166)) #[.string ⟨#[]⟩,.bool false,.string ⟨#[]⟩,.int .i64 0] 39).alloc (.cells #[.string nm,.bool raw,.string ⟨#[]⟩,.int .i64 0] 39);have b3:=Bx.new ((w.alloc (.cells BX 166)).alloc (.cells #[.string ⟨#[]⟩,.bool false,.string ⟨#[]⟩,.int .i64 0] 39)) #[.string nm,.bool raw,.string ⟨#[]⟩,.int .i64 0] 39;rw [World.size_alloc] at b2;rw [World.size_alloc,World.size_alloc] at b3;exact⟨b1,b2,b3,((h.alloc _).alloc _).alloc _,.of ((((Below.refl _ w).alloc (Nat.le_refl _) _).alloc (by simp) _).alloc (by simp;omega) _),h.lt⟩
end
theorem Zm1 (s:InS)(k:Nat):(s.until k).1.length≤s.t.length:=by
 have c1:∀l q,ZaC l=some q→q.1.length≤l.length:=by
  intro l;induction l with
  |nil=>intro q h;simp [ZaC] at h
  |cons x r ih=>
   intro q h;rw [ZaC] at h;split at h
   · injection h with h;subst h;simp
   · cases hq:ZaC r with
     |none=>rw [hq] at h;cases h
     |some q2=>rw [hq] at h;injection h with h;subst h;have:=ih q2 hq;simp;omega
 have c2:∀n l q,l.length≤n→Z6 l=some q→q.1.length≤l.length:=by
  intro n;induction n with
  |zero=>intro l q hl h;match l,hl,h with|[],_,h=>simp [Z6] at h
  |succ n ih=>
   intro l q hl h
   match l,hl,h with
   |[],_,h=>simp [Z6] at h
   |[x],_,h=>simp [Z6] at h
   |x::y::r,hl,h=>
    rw [Z6] at h;split at h
    · injection h with h;subst h;simp
    · cases hq:Z6 r with
      |none=>rw [hq] at h;cases h
      |some q2=>rw [hq] at h;injection h with h;subst h;have:=ih r q2 (by simp at hl;omega) hq;simp;omega
 unfold InS.until;split
 · simp
 · have hl:(s.t.drop s.n).length≤s.t.length:=by simp
   split
   · simp
   · rename_i q hq
     unfold ZcQ at hq;split at hq
     · have:=c1 _ _ hq;simp only;omega
     · have:=c2 _ _ _ (Nat.le_refl _) hq;simp only;omega
theorem ZtF (s:InS)(k:Nat):(s.take k).1.length≤s.t.length:=by
 unfold InS.take
 (repeat' split)<;>simp
 omega
theorem Zhl {w:World} {K:Nat} {s:InS} (h:InAt w K s):s.at_≤1000000000:=by
 have h1:=h.room;have h2:=h.fits;unfold InS.at_ InS.place Zgn;split<;>omega
theorem Zie {w w2:World} {K:Nat} {BX:Array Value} {nm:ByteArray} {raw:Bool} {s:InS} (h:PcSt w w2 K BX nm raw s)(T:ByteArray):
 Bx (((((w2.setCell ⟨w.heap.size+1+1,2,none⟩ (.string T)).setCell ⟨w.heap.size+1,0,none⟩ (.string nm)).setCell ⟨w.heap.size+1,1,none⟩ (.bool raw)).setCell ⟨w.heap.size+1,2,none⟩ (.string T)).setCell ⟨w.heap.size+1,3,none⟩ (.int .i64 0)) (w.heap.size+1) #[.string nm,.bool raw,.string T,.int .i64 0] 39∧
 InAt (((((w2.setCell ⟨w.heap.size+1+1,2,none⟩ (.string T)).setCell ⟨w.heap.size+1,0,none⟩ (.string nm)).setCell ⟨w.heap.size+1,1,none⟩ (.bool raw)).setCell ⟨w.heap.size+1,2,none⟩ (.string T)).setCell ⟨w.heap.size+1,3,none⟩ (.int .i64 0)) K s∧
 But K w.heap.size w (((((w2.setCell ⟨w.heap.size+1+1,2,none⟩ (.string T)).setCell ⟨w.heap.size+1,0,none⟩ (.string nm)).setCell ⟨w.heap.size+1,1,none⟩ (.bool raw)).setCell ⟨w.heap.size+1,2,none⟩ (.string T)).setCell ⟨w.heap.size+1,3,none⟩ (.int .i64 0)):=by
 have hl:=h.lt;refine⟨((((h.res.set (k:=w.heap.size+1+1) (by omega) 2 _).put 0 _).put 1 _).put 2 _).put 3 _,((((h.inn.set (by omega) 2 _).set (by omega) 0 _).set (by omega) 1 _).set (by omega) 2 _).set (by omega) 3 _,?_⟩;exact((((h.but.setCell (.inl (by show w.heap.size≤w.heap.size+1+1;omega)) _).setCell (.inl (Nat.le_succ _)) _).setCell (.inl (Nat.le_succ _)) _).setCell (.inl (Nat.le_succ _)) _).setCell (.inl (Nat.le_succ _)) _
theorem Zif {w w2:World} {K:Nat} {BX:Array Value} {nm:ByteArray} {raw:Bool} {s:InS} (h:PcSt w w2 K BX nm raw s)(T:ByteArray)(z:Int):
 Bx ((((((w2.setCell ⟨w.heap.size+1+1,2,none⟩ (.string T)).setCell ⟨w.heap.size+1+1,3,none⟩ (.int .i64 z)).setCell ⟨w.heap.size+1,0,none⟩ (.string nm)).setCell ⟨w.heap.size+1,1,none⟩ (.bool raw)).setCell ⟨w.heap.size+1,2,none⟩ (.string T)).setCell ⟨w.heap.size+1,3,none⟩ (.int .i64 z)) (w.heap.size+1) #[.string nm,.bool raw,.string T,.int .i64 z] 39∧
 InAt ((((((w2.setCell ⟨w.heap.size+1+1,2,none⟩ (.string T)).setCell ⟨w.heap.size+1+1,3,none⟩ (.int .i64 z)).setCell ⟨w.heap.size+1,0,none⟩ (.string nm)).setCell ⟨w.heap.size+1,1,none⟩ (.bool raw)).setCell ⟨w.heap.size+1,2,none⟩ (.string T)).setCell ⟨w.heap.size+1,3,none⟩ (.int .i64 z)) K s∧
 But K w.heap.size w ((((((w2.setCell ⟨w.heap.size+1+1,2,none⟩ (.string T)).setCell ⟨w.heap.size+1+1,3,none⟩ (.int .i64 z)).setCell ⟨w.heap.size+1,0,none⟩ (.string nm)).setCell ⟨w.heap.size+1,1,none⟩ (.bool raw)).setCell ⟨w.heap.size+1,2,none⟩ (.string T)).setCell ⟨w.heap.size+1,3,none⟩ (.int .i64 z)):=by
 have hl:=h.lt;refine⟨(((((h.res.set (k:=w.heap.size+1+1) (by omega) 2 _).set (k:=w.heap.size+1+1) (by omega) 3 _).put 0 _).put 1 _).put 2 _).put 3 _,(((((h.inn.set (by omega) 2 _).set (by omega) 3 _).set (by omega) 0 _).set (by omega) 1 _).set (by omega) 2 _).set (by omega) 3 _,?_⟩;exact(((((h.but.setCell (.inl (by show w.heap.size≤w.heap.size+1+1;omega)) _).setCell (.inl (by show w.heap.size≤w.heap.size+1+1;omega)) _).setCell (.inl (Nat.le_succ _)) _).setCell (.inl (Nat.le_succ _)) _).setCell (.inl (Nat.le_succ _)) _).setCell (.inl (Nat.le_succ _)) _
def Zbl (K:Nat)(p:Pt×InS)(w:World)(e:Ending)(w':World):Prop:=Zf K w (.agg (ptA p.1)) p.2 e w'
theorem Zg5 (l:Lt)(hl:l= .lang∨l= .fmt∨l= .kind)(K:Nat)(s:InS)(en:Nat)(kd bud:Int)(fb:Nat)(det:Bool)(wd:List UInt8→Except (Nat×Nat) (List UInt8×Nat))(w:World)(h:InAt w K s):
 Calls Tryz.prog 108 #[.agg (Zad K en kd bud fb det),.int .u8 (ltB l).toNat] w (Zbl K (ZK en wd s l) w):=by
 have hnm:=fun w=>Zea l w;have hat:=fun w h=>Zb0 K s w h;obtain⟨n,hn,hn2,hp⟩:∃n:Nat,n≤3∧(if l= .kind then n=1 else n=3)∧ZK en wd s l=(⟨l,true,(s.take n).1,0⟩,(s.take n).2):=by
  rcases hl with rfl|rfl|rfl
  · exact⟨3,by decide,rfl,rfl⟩
  · exact⟨3,by decide,rfl,rfl⟩
  · exact⟨1,by decide,rfl,rfl⟩
 have htk:=fun w h=>ZcP K s n (by omega) (by omega) w h;rw [Int.toNat_natCast] at htk;unfold Zf at htk;rw [hp];unfold Zbl ptA;simp only;generalize hT:B (s.take n).1=T at*;generalize (s.take n).2=s2 at*;generalize hN:B (ltN l)=nm at*;have ST:=Lib.hid (PcSt.mk0 h (Zad K en kd bud fb det) nm true);unfold Zad at*;clear hp hT;have a1:=ST.out.sc.cell 0;rcases hl with rfl|rfl|rfl
 all_goals
  first|(simp only [reduceCtorEq,if_false] at hn2;subst hn2)|(simp only [if_true] at hn2;subst hn2)
  unfold ltB at*;go_enter Tryz.func108,Tryz.ntmps108
  go_wp2_with (first
   |(go_at_call 106;refine(hnm _).mono ?_;rintro e w1 ⟨rfl,rfl⟩)
   |(go_at_call 55;refine(hat _ ST.out.inn).mono ?_;rintro e w1 ⟨rfl,rfl⟩)
   |(go_at_call 57;refine(htk _ ST.out.inn).mono ?_;rintro e w2 ⟨rfl,h2,hb2⟩;have S2:=Lib.hid (ST.out.butK h2 hb2);clear h2 hb2;have p0:=S2.out.pt.cell 0;have p1:=S2.out.pt.cell 1;have p2:=S2.out.pt.cell 2;have p3:=S2.out.pt.cell 3;have q0:=S2.out.res.cell 0;have q1:=S2.out.res.cell 1;have q2:=S2.out.res.cell 2;have q3:=S2.out.res.cell 3;have g2:=S2.out.pt.free 2;have g3:=S2.out.pt.free 3;have r0:=S2.out.res.free 0;have r1:=S2.out.res.free 1;have r2:=S2.out.res.free 2;have r3:=S2.out.res.free 3))
  obtain⟨z1,z2,z3⟩:=Zie S2.out T;exact bodyPost_ret (results_cell_row rfl _ _ (w.heap.size+1) _ _ _ _ rfl z1 Tryz.underlying39 rfl (by kernel_rfl)) rfl ⟨rfl,z2,z3⟩
theorem Zos (K:Nat)(s:InS)(en:Nat)(kd bud:Int)(fb:Nat)(det:Bool)(wd:List UInt8→Except (Nat×Nat) (List UInt8×Nat))(w:World)(h:InAt w K s):
 Calls Tryz.prog 108 #[.agg (Zad K en kd bud fb det),.int .u8 (ltB .mime).toNat] w (Zbl K (ZK en wd s .mime) w):=by
 have hnm:=fun w=>Zea .mime w;have hat:=fun w h=>Zb0 K s w h;have htk:=fun w h=>ZjJ K s w h;unfold Zf at htk;obtain⟨x,s2,hx,hp⟩:∃x s2,s.until 1=(x,s2)∧ZK en wd s .mime=(⟨.mime,true,x,0⟩,s2):=⟨_,_,rfl,rfl⟩
 rw [hp];rw [hx] at htk;unfold Zbl ptA;simp only at htk⊢;generalize hT:B x=T at*;generalize hN:B (ltN .mime)=nm at*;have ST:=Lib.hid (PcSt.mk0 h (Zad K en kd bud fb det) nm true);unfold Zad at*;clear hp hT hx;have a1:=ST.out.sc.cell 0;unfold ltB at*;go_enter Tryz.func108,Tryz.ntmps108
 go_wp2_with (first
  |(go_at_call 106;refine(hnm _).mono ?_;rintro e w1 ⟨rfl,rfl⟩)
  |(go_at_call 55;refine(hat _ ST.out.inn).mono ?_;rintro e w1 ⟨rfl,rfl⟩)
  |(go_at_call 196;refine(htk _ ST.out.inn).mono ?_;rintro e w2 ⟨rfl,h2,hb2⟩;have S2:=Lib.hid (ST.out.butK h2 hb2);clear h2 hb2;have p0:=S2.out.pt.cell 0;have p1:=S2.out.pt.cell 1;have p2:=S2.out.pt.cell 2;have p3:=S2.out.pt.cell 3;have q0:=S2.out.res.cell 0;have q1:=S2.out.res.cell 1;have q2:=S2.out.res.cell 2;have q3:=S2.out.res.cell 3;have g2:=S2.out.pt.free 2;have g3:=S2.out.pt.free 3;have r0:=S2.out.res.free 0;have r1:=S2.out.res.free 1;have r2:=S2.out.res.free 2;have r3:=S2.out.res.free 3))
 obtain⟨z1,z2,z3⟩:=Zie S2.out T;exact bodyPost_ret (results_cell_row rfl _ _ (w.heap.size+1) _ _ _ _ rfl z1 Tryz.underlying39 rfl (by kernel_rfl)) rfl ⟨rfl,z2,z3⟩
theorem Zop (K:Nat)(s:InS)(en:Nat)(kd bud:Int)(fb:Nat)(det:Bool)(wd:List UInt8→Except (Nat×Nat) (List UInt8×Nat))(w:World)(h:InAt w K s):
 Calls Tryz.prog 108 #[.agg (Zad K en kd bud fb det),.int .u8 (ltB .data).toNat] w (Zbl K (ZK en wd s .data) w):=by
 have hnm:=fun w=>Zea .data w;have hat:=fun w h=>Zb0 K s w h;have htk:=fun w h=>Zec K s w h;unfold Zf at htk;obtain⟨x,s2,hx,hp⟩:∃x s2,s.rest=(x,s2)∧ZK en wd s .data=(⟨.data,true,x,0⟩,s2):=⟨_,_,rfl,rfl⟩
 rw [hp];rw [hx] at htk;unfold Zbl ptA;simp only at htk⊢;generalize hT:B x=T at*;generalize hN:B (ltN .data)=nm at*;have ST:=Lib.hid (PcSt.mk0 h (Zad K en kd bud fb det) nm true);unfold Zad at*;clear hp hT hx;have a1:=ST.out.sc.cell 0;unfold ltB at*;go_enter Tryz.func108,Tryz.ntmps108
 go_wp2_with (first
  |(go_at_call 106;refine(hnm _).mono ?_;rintro e w1 ⟨rfl,rfl⟩)
  |(go_at_call 55;refine(hat _ ST.out.inn).mono ?_;rintro e w1 ⟨rfl,rfl⟩)
  |(go_at_call 60;refine(htk _ ST.out.inn).mono ?_;rintro e w2 ⟨rfl,h2,hb2⟩;have S2:=Lib.hid (ST.out.butK h2 hb2);clear h2 hb2;have p0:=S2.out.pt.cell 0;have p1:=S2.out.pt.cell 1;have p2:=S2.out.pt.cell 2;have p3:=S2.out.pt.cell 3;have q0:=S2.out.res.cell 0;have q1:=S2.out.res.cell 1;have q2:=S2.out.res.cell 2;have q3:=S2.out.res.cell 3;have g2:=S2.out.pt.free 2;have g3:=S2.out.pt.free 3;have r0:=S2.out.res.free 0;have r1:=S2.out.res.free 1;have r2:=S2.out.res.free 2;have r3:=S2.out.res.free 3))
 obtain⟨z1,z2,z3⟩:=Zie S2.out T;exact bodyPost_ret (results_cell_row rfl _ _ (w.heap.size+1) _ _ _ _ rfl z1 Tryz.underlying39 rfl (by kernel_rfl)) rfl ⟨rfl,z2,z3⟩
def Zef (K en:Nat)(kd bud:Int)(fb:Nat)(det:Bool):Prop:=∀(s:InS) (l:List UInt8),l.length≤100000→∀k:Nat,k≤1000000000→∀w:World,Grd w→InAt w K s→
 Calls Tryz.prog 197 #[.agg #[.pointer (some ⟨K,0,none⟩),.int .u8 en,.int .i64 kd,.int .i64 fb,.bool det,.int .i64 bud],.string (B l),.int .i64 k] w (Zcr K s k (wdF fb det en l) w)
theorem Zhe (lt:Lt)(K:Nat)(s:InS)(en:Nat)(kd bud:Int)(fb:Nat)(det:Bool)(hW:Zef K en kd bud fb det)(l:List UInt8)(hl:l.length≤100000)(k:Nat)(hk:k≤1000000000)(w:World)(hG:Grd w)(h:InAt w K s):
 Calls Tryz.prog 197 #[.agg (Zad K en kd bud fb det),.string (B l),.int .i64 k] w (Zf K w (.tuple #[.string (B (ZaO (wdF fb det en) lt (l,s) k).1.text),.int .i64 ((ZaO (wdF fb det en) lt (l,s) k).1.set:Nat)]) (ZaO (wdF fb det en) lt (l,s) k).2):=by
 have hw:=hW s l hl k hk w hG h;unfold ZaO;simp only;cases hr:wdF fb det en l with
 |ok t=>rw [hr] at hw;exact hw
 |error x=>rw [hr] at hw;exact hw
theorem ZiN (wd:List UInt8→Except (Nat×Nat) (List UInt8×Nat))(lt:Lt)(b:List UInt8×InS)(k:Nat):(ZaO wd lt b k).1.l=lt∧(ZaO wd lt b k).1.raw=false:=by
 unfold ZaO;split<;>exact⟨rfl,rfl⟩
theorem Bx.six {w:World} {g:Nat} {a b c d e f:Value} {T:TypeId} (h:Bx w g #[a,b,c,d,e,f] T):w.cell? ⟨g,0,none⟩=some a∧w.cell? ⟨g,1,none⟩=some b∧w.cell? ⟨g,2,none⟩=some c∧w.cell? ⟨g,3,none⟩=some d∧w.cell? ⟨g,4,none⟩=some e∧w.cell? ⟨g,5,none⟩=some f:=
 ⟨h.cell 0,h.cell 1,h.cell 2,h.cell 3,h.cell 4,h.cell 5⟩
theorem Zot (K:Nat)(s:InS)(en:Nat)(kd bud:Int)(fb:Nat)(det:Bool)(hW:Zef K en kd bud fb det)(hlen:s.t.length≤100000)(w:World)(hG:Grd w)(h:InAt w K s):
 Calls Tryz.prog 108 #[.agg (Zad K en kd bud fb det),.int .u8 (ltB .text).toNat] w (Zbl K (ZK en (wdF fb det en) s .text) w):=by
 have hnm:=fun w=>Zea .text w;have hat:=fun w h=>Zb0 K s w h;have hal:=Zhl h;have htk:=fun w h=>Zec K s w h;have hrl:s.rest.1.length≤100000:=Nat.le_trans (ZtF s _) hlen;unfold Zf at htk;obtain⟨x,s2,hx⟩:∃x s2,s.rest=(x,s2):=⟨_,_,rfl⟩
 rw [hx] at htk hrl;have hwd:=fun w hG h=>Zhe .text K s2 en kd bud fb det hW x hrl s.at_ hal w hG h;unfold Zf at hwd;have hp:ZK en (wdF fb det en) s .text=ZaO (wdF fb det en) .text (x,s2) s.at_:=by rw [←hx];rfl
 rw [hp];obtain⟨pt,s3,hq,hql⟩:∃pt s3,ZaO (wdF fb det en) .text (x,s2) s.at_=(pt,s3)∧pt.l= .text∧pt.raw=false:=⟨_,_,rfl,ZiN _ _ _ _⟩
 rw [hq] at hwd⊢;obtain⟨pl,praw,ptx,pset⟩:=pt;obtain⟨rfl,rfl⟩:=hql;unfold Zbl ptA;simp only at htk hwd⊢;generalize hT:B ptx=T at*;generalize hX:B x=X at*;generalize hN:B (ltN .text)=nm at*;have ST:=Lib.hid (PcSt.mk0 h (Zad K en kd bud fb det) nm true);have SX:=Lib.hid (PcSt.mk0 h (Zad K en kd bud fb det) nm false);have G0:=Lib.hid hG;unfold Zad at*;clear hp hT hX hx hq hal hrl hlen;have a1:=ST.out.sc.cell 0;have p1:=ST.out.pt.cell 1;have g1:=ST.out.pt.free 1;unfold ltB at*;go_enter Tryz.func108,Tryz.ntmps108
 go_wp2_with (first
  |(go_at_call 106;refine(hnm _).mono ?_;rintro e w1 ⟨rfl,rfl⟩)
  |(go_at_call 55;refine(hat _ ST.out.inn).mono ?_;rintro e w1 ⟨rfl,rfl⟩))
 go_region_held3 (fun w'=>w'.cell? ⟨w.heap.size,0,none⟩=some (.pointer (some ⟨K,0,none⟩))∧w'.cell? ⟨w.heap.size,1,none⟩=some (.int .u8 (en:Int))∧w'.cell? ⟨w.heap.size,2,none⟩=some (.int .i64 kd)∧w'.cell? ⟨w.heap.size,3,none⟩=some (.int .i64 (fb:Int))∧w'.cell? ⟨w.heap.size,4,none⟩=some (.bool det)∧w'.cell? ⟨w.heap.size,5,none⟩=some (.int .i64 bud))
  (first|exact SX.out.sc.six|with_reducible exact(SX.out.drewN 1).sc.six|with_reducible exact S2.out.sc.six|with_reducible exact S3.out.sc.six|with_reducible exact(S3.out.sc.set (k:=w.heap.size+1+1) (by omega) 2 _).six|with_reducible exact((S3.out.sc.set (k:=w.heap.size+1+1) (by omega) 2 _).set (k:=w.heap.size+1+1) (by omega) 3 _).six|with_reducible exact(S3.out.sc.set (k:=w.heap.size+1+1) (by omega) 3 _).six)
  (first
   |(go_at_call 60;refine(htk _ (by first|exact SX.out.inn|exact(SX.out.drewN 1).inn)).mono ?_;rintro e w2 ⟨rfl,h2,hb2⟩;have S2:=Lib.hid (by first|exact SX.out.butK h2 hb2|exact(SX.out.drewN 1).butK h2 hb2))
   |(go_at_call 197;refine(hwd _ (G0.out.but h S2.out.but) S2.out.inn).mono ?_;rintro e w3 ⟨rfl,h3,hb3⟩;have S3:=Lib.hid (S2.out.butK h3 hb3);have p0:=S3.out.pt.cell 0;have p1:=S3.out.pt.cell 1;have p2:=S3.out.pt.cell 2;have p3:=S3.out.pt.cell 3;have q0:=S3.out.res.cell 0;have q1:=S3.out.res.cell 1;have q2:=S3.out.res.cell 2;have q3:=S3.out.res.cell 3;have g2:=S3.out.pt.free 2;have g3:=S3.out.pt.free 3;have r0:=S3.out.res.free 0;have r1:=S3.out.res.free 1;have r2:=S3.out.res.free 2;have r3:=S3.out.res.free 3))
 go_wp2_with fail
 obtain⟨z1,z2,z3⟩:=Zif S3.out T pset;exact bodyPost_ret (results_cell_row rfl _ _ (w.heap.size+1) _ _ _ _ rfl z1 Tryz.underlying39 rfl (by kernel_rfl)) rfl ⟨rfl,z2,z3⟩
theorem Zor (K:Nat)(s:InS)(en:Nat)(hen:en≤255)(kd bud:Int)(fb:Nat)(det:Bool)(he:en=1∨en=2)(hW:Zef K en kd bud fb det)(hlen:s.t.length≤100000)(w:World)(hG:Grd w)(h:InAt w K s):
 Calls Tryz.prog 108 #[.agg (Zad K en kd bud fb det),.int .u8 (ltB .desc).toNat] w (Zbl K (ZK en (wdF fb det en) s .desc) w):=by
 have hnm:=fun w=>Zea .desc w;have hat:=fun w h=>Zb0 K s w h;have hal:=Zhl h;have htk:=fun w h=>Until2 K s w h;have hrl:(s.until 2).1.length≤100000:=Nat.le_trans (Zm1 s _) hlen;unfold Zf at htk;obtain⟨x,s2,hx⟩:∃x s2,s.until 2=(x,s2):=⟨_,_,rfl⟩
 rw [hx] at htk hrl;have hwd:=fun w hG h=>Zhe .desc K s2 en kd bud fb det hW x hrl s.at_ hal w hG h;unfold Zf at hwd;have hp:ZK en (wdF fb det en) s .desc=ZaO (wdF fb det en) .desc (x,s2) s.at_:=by rw [←hx];unfold ZK Zas;simp only [he,if_true,if_false]
 rw [hp];obtain⟨pt,s3,hq,hql⟩:∃pt s3,ZaO (wdF fb det en) .desc (x,s2) s.at_=(pt,s3)∧pt.l= .desc∧pt.raw=false:=⟨_,_,rfl,ZiN _ _ _ _⟩
 rw [hq] at hwd⊢;obtain⟨pl,praw,ptx,pset⟩:=pt;obtain⟨rfl,rfl⟩:=hql;have hen2:=fun w=>Zi5 (.pointer (some ⟨K,0,none⟩)) en he (.int .i64 kd) (.int .i64 fb) (.bool det) (.int .i64 bud) w;unfold Zbl ptA;simp only at htk hwd⊢;generalize hT:B ptx=T at*;generalize hX:B x=X at*;generalize hN:B (ltN .desc)=nm at*;have ST:=Lib.hid (PcSt.mk0 h (Zad K en kd bud fb det) nm true);have SX:=Lib.hid (PcSt.mk0 h (Zad K en kd bud fb det) nm false);have G0:=Lib.hid hG;unfold Zad at*;clear hp hT hX hx hq hal hrl hlen he;have a1:=ST.out.sc.cell 0;have p1:=ST.out.pt.cell 1;have g1:=ST.out.pt.free 1;unfold ltB at*;go_enter Tryz.func108,Tryz.ntmps108
 go_wp2_with (first
  |(go_at_call 106;refine(hnm _).mono ?_;rintro e w1 ⟨rfl,rfl⟩)
  |(go_at_call 55;refine(hat _ ST.out.inn).mono ?_;rintro e w1 ⟨rfl,rfl⟩))
 go_region_held3 (fun w'=>w'.cell? ⟨w.heap.size,0,none⟩=some (.pointer (some ⟨K,0,none⟩))∧w'.cell? ⟨w.heap.size,1,none⟩=some (.int .u8 (en:Int))∧w'.cell? ⟨w.heap.size,2,none⟩=some (.int .i64 kd)∧w'.cell? ⟨w.heap.size,3,none⟩=some (.int .i64 (fb:Int))∧w'.cell? ⟨w.heap.size,4,none⟩=some (.bool det)∧w'.cell? ⟨w.heap.size,5,none⟩=some (.int .i64 bud))
  (first|exact SX.out.sc.six|with_reducible exact(SX.out.drewN 1).sc.six|with_reducible exact S1.out.sc.six|with_reducible exact S2.out.sc.six|with_reducible exact S3.out.sc.six|with_reducible exact(S3.out.sc.set (k:=w.heap.size+1+1) (by omega) 2 _).six|with_reducible exact((S3.out.sc.set (k:=w.heap.size+1+1) (by omega) 2 _).set (k:=w.heap.size+1+1) (by omega) 3 _).six|with_reducible exact(S3.out.sc.set (k:=w.heap.size+1+1) (by omega) 3 _).six)
  (first
   |(go_at_call 145;refine(hen2 _).mono ?_;rintro e w1 ⟨rfl,hb1⟩;have S1:=Lib.hid (by first|exact SX.out.below hb1|exact(SX.out.drewN 1).below hb1))
   |(go_at_call 196;refine(htk _ S1.out.inn).mono ?_;rintro e w2 ⟨rfl,h2,hb2⟩;have S2:=Lib.hid (S1.out.butK h2 hb2))
   |(go_at_call 197;refine(hwd _ (G0.out.but h S2.out.but) S2.out.inn).mono ?_;rintro e w3 ⟨rfl,h3,hb3⟩;have S3:=Lib.hid (S2.out.butK h3 hb3);have p0:=S3.out.pt.cell 0;have p1:=S3.out.pt.cell 1;have p2:=S3.out.pt.cell 2;have p3:=S3.out.pt.cell 3;have q0:=S3.out.res.cell 0;have q1:=S3.out.res.cell 1;have q2:=S3.out.res.cell 2;have q3:=S3.out.res.cell 3;have g2:=S3.out.pt.free 2;have g3:=S3.out.pt.free 3;have r0:=S3.out.res.free 0;have r1:=S3.out.res.free 1;have r2:=S3.out.res.free 2;have r3:=S3.out.res.free 3))
 go_wp2_with fail
 obtain⟨z1,z2,z3⟩:=Zif S3.out T pset;exact bodyPost_ret (results_cell_row rfl _ _ (w.heap.size+1) _ _ _ _ rfl z1 Tryz.underlying39 rfl (by kernel_rfl)) rfl ⟨rfl,z2,z3⟩
theorem Zoq (K:Nat)(s:InS)(en:Nat)(hen:en≤255)(kd bud:Int)(fb:Nat)(det:Bool)(he:¬(en=1∨en=2))(hW:Zef K en kd bud fb det)(hlen:s.t.length≤100000)(w:World)(hG:Grd w)(h:InAt w K s):
 Calls Tryz.prog 108 #[.agg (Zad K en kd bud fb det),.int .u8 (ltB .desc).toNat] w (Zbl K (ZK en (wdF fb det en) s .desc) w):=by
 have hnm:=fun w=>Zea .desc w;have hat:=fun w h=>Zb0 K s w h;have hal:=Zhl h;have htk:=fun w h=>ZjJ K s w h;have hrl:(s.until 1).1.length≤100000:=Nat.le_trans (Zm1 s _) hlen;unfold Zf at htk;obtain⟨x,s2,hx⟩:∃x s2,s.until 1=(x,s2):=⟨_,_,rfl⟩
 rw [hx] at htk hrl;have hwd:=fun w hG h=>Zhe .desc K s2 en kd bud fb det hW x hrl s.at_ hal w hG h;unfold Zf at hwd;have hp:ZK en (wdF fb det en) s .desc=ZaO (wdF fb det en) .desc (x,s2) s.at_:=by rw [←hx];unfold ZK Zas;simp only [he,if_true,if_false]
 rw [hp];obtain⟨pt,s3,hq,hql⟩:∃pt s3,ZaO (wdF fb det en) .desc (x,s2) s.at_=(pt,s3)∧pt.l= .desc∧pt.raw=false:=⟨_,_,rfl,ZiN _ _ _ _⟩
 rw [hq] at hwd⊢;obtain⟨pl,praw,ptx,pset⟩:=pt;obtain⟨rfl,rfl⟩:=hql;have hen2:=fun w=>Zi4 (.pointer (some ⟨K,0,none⟩)) en he (.int .i64 kd) (.int .i64 fb) (.bool det) (.int .i64 bud) w;unfold Zbl ptA;simp only at htk hwd⊢;generalize hT:B ptx=T at*;generalize hX:B x=X at*;generalize hN:B (ltN .desc)=nm at*;have ST:=Lib.hid (PcSt.mk0 h (Zad K en kd bud fb det) nm true);have SX:=Lib.hid (PcSt.mk0 h (Zad K en kd bud fb det) nm false);have G0:=Lib.hid hG;unfold Zad at*;clear hp hT hX hx hq hal hrl hlen he;have a1:=ST.out.sc.cell 0;have p1:=ST.out.pt.cell 1;have g1:=ST.out.pt.free 1;unfold ltB at*;go_enter Tryz.func108,Tryz.ntmps108
 go_wp2_with (first
  |(go_at_call 106;refine(hnm _).mono ?_;rintro e w1 ⟨rfl,rfl⟩)
  |(go_at_call 55;refine(hat _ ST.out.inn).mono ?_;rintro e w1 ⟨rfl,rfl⟩))
 go_region_held3 (fun w'=>w'.cell? ⟨w.heap.size,0,none⟩=some (.pointer (some ⟨K,0,none⟩))∧w'.cell? ⟨w.heap.size,1,none⟩=some (.int .u8 (en:Int))∧w'.cell? ⟨w.heap.size,2,none⟩=some (.int .i64 kd)∧w'.cell? ⟨w.heap.size,3,none⟩=some (.int .i64 (fb:Int))∧w'.cell? ⟨w.heap.size,4,none⟩=some (.bool det)∧w'.cell? ⟨w.heap.size,5,none⟩=some (.int .i64 bud))
  (first|exact SX.out.sc.six|with_reducible exact(SX.out.drewN 1).sc.six|with_reducible exact S1.out.sc.six|with_reducible exact S2.out.sc.six|with_reducible exact S3.out.sc.six|with_reducible exact(S3.out.sc.set (k:=w.heap.size+1+1) (by omega) 2 _).six|with_reducible exact((S3.out.sc.set (k:=w.heap.size+1+1) (by omega) 2 _).set (k:=w.heap.size+1+1) (by omega) 3 _).six|with_reducible exact(S3.out.sc.set (k:=w.heap.size+1+1) (by omega) 3 _).six)
  (first
   |(go_at_call 145;refine(hen2 _).mono ?_;rintro e w1 ⟨rfl,hb1⟩;have S1:=Lib.hid (by first|exact SX.out.below hb1|exact(SX.out.drewN 1).below hb1))
   |(go_at_call 196;refine(htk _ S1.out.inn).mono ?_;rintro e w2 ⟨rfl,h2,hb2⟩;have S2:=Lib.hid (S1.out.butK h2 hb2))
   |(go_at_call 197;refine(hwd _ (G0.out.but h S2.out.but) S2.out.inn).mono ?_;rintro e w3 ⟨rfl,h3,hb3⟩;have S3:=Lib.hid (S2.out.butK h3 hb3);have p0:=S3.out.pt.cell 0;have p1:=S3.out.pt.cell 1;have p2:=S3.out.pt.cell 2;have p3:=S3.out.pt.cell 3;have q0:=S3.out.res.cell 0;have q1:=S3.out.res.cell 1;have q2:=S3.out.res.cell 2;have q3:=S3.out.res.cell 3;have g2:=S3.out.pt.free 2;have g3:=S3.out.pt.free 3;have r0:=S3.out.res.free 0;have r1:=S3.out.res.free 1;have r2:=S3.out.res.free 2;have r3:=S3.out.res.free 3))
 go_wp2_with fail
 obtain⟨z1,z2,z3⟩:=Zif S3.out T pset;exact bodyPost_ret (results_cell_row rfl _ _ (w.heap.size+1) _ _ _ _ rfl z1 Tryz.underlying39 rfl (by kernel_rfl)) rfl ⟨rfl,z2,z3⟩
theorem Zou (l:Lt)(K:Nat)(s:InS)(en:Nat)(hen:en≤255)(kd bud:Int)(fb:Nat)(det:Bool)(hW:Zef K en kd bud fb det)(hlen:s.t.length≤100000)(w:World)(hG:Grd w)(h:InAt w K s):
 Calls Tryz.prog 108 #[.agg (Zad K en kd bud fb det),.int .u8 (ltB l).toNat] w (Zbl K (ZK en (wdF fb det en) s l) w):=by
 cases l with
 |lang=>exact Zg5 .lang (.inl rfl) K s en kd bud fb det _ w h
 |fmt=>exact Zg5 .fmt (.inr (.inl rfl)) K s en kd bud fb det _ w h
 |mime=>exact Zos K s en kd bud fb det _ w h
 |kind=>exact Zg5 .kind (.inr (.inr rfl)) K s en kd bud fb det _ w h
 |desc=>
  by_cases he:en=1∨en=2
  · exact Zor K s en hen kd bud fb det he hW hlen w hG h
  · exact Zoq K s en hen kd bud fb det he hW hlen w hG h
 |text=>exact Zot K s en kd bud fb det hW hlen w hG h
 |data=>exact Zop K s en kd bud fb det _ w h
end Go.Proofs.YtecandjkbbpooaaGreatDoor
