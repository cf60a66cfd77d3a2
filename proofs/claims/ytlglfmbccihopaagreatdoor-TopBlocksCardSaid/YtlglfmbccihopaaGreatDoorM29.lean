/- Lemmas for a statement on the tops; conditions: as each says. -/
import Derived.Deep.Slices
import Derived.Deep.Fields
import Derived.ChangeSame
import Derived.Test.YtlglfmbccihopaaGreatDoorM28
set_option linter.unusedVariables false
set_option linter.unusedSimpArgs false
set_option maxRecDepth 100000
set_option maxHeartbeats 4000000
namespace Go.Proofs.YtlglfmbccihopaaGreatDoor
open Go Go.RowKit
section
variable {w wx wy:World} {OA:Array Value}
end
theorem Bx.four {w:World} {g:Nat} {a b c d:Value} {T:TypeId} (h:Bx w g #[a,b,c,d] T):(w.cell? ⟨g,0,none⟩=some a∧w.cell? ⟨g,1,none⟩=some b∧w.cell? ⟨g,2,none⟩=some c∧w.cell? ⟨g,3,none⟩=some d)∧(∀j,w.frozen? ⟨g,j,none⟩=false)∧g<w.heap.size:=⟨⟨h.cell 0,h.cell 1,h.cell 2,h.cell 3⟩,h.free,h.lt⟩
structure Pi where
 nm:ByteArray
 raw:Bool
 text:List UInt8
 set:Int
structure NtSt (w wx:World)(K:Nat)(BX:Array Value)(s:InS):Prop where
 sc:Bx wx w.heap.size BX 184
 res:Bx wx (w.heap.size+1) #[.string ⟨#[]⟩,.string ⟨#[]⟩,.int .i64 0] 93
 inn:InAt wx K s
 but:But K w.heap.size w wx
 lt:K<w.heap.size
section
variable {w wx wy:World} {K:Nat} {BX:Array Value} {s s':InS}
theorem NtSt.below (h:NtSt w wx K BX s)(hb:Below wx.heap.size wx wy):NtSt w wy K BX s:=
 ⟨h.sc.below hb,h.res.below hb,h.inn.below hb,h.but.trans ((But.of hb).mono h.but.size),h.lt⟩
theorem NtSt.butK (h:NtSt w wx K BX s)(h2:InAt wy K s')(hb:But K wx.heap.size wx wy):NtSt w wy K BX s':=
 ⟨h.sc.but hb (by have:=h.lt;omega),h.res.but hb (by have:=h.lt;omega),h2,h.but.trans (hb.mono h.but.size),h.lt⟩
theorem NtSt.drewN (h:NtSt w wx K BX s)(n:Nat):NtSt w (wx.drewN n) K BX s:=h.below (below_drewN (Below.refl _ _) n)
theorem NtSt.mk0 (h:InAt w K s)(BX:Array Value):
 NtSt w ((w.alloc (.cells BX 184)).alloc (.cells #[.string ⟨#[]⟩,.string ⟨#[]⟩,.int .i64 0] 93)) K BX s:=by
 have b1:=(Bx.new w BX 184).alloc (.cells #[.string ⟨#[]⟩,.string ⟨#[]⟩,.int .i64 0] 93);have b2:=Bx.new (w.alloc (.cells BX 184)) #[.string ⟨#[]⟩,.string ⟨#[]⟩,.int .i64 0] 93;rw [World.size_alloc] at b2;exact⟨b1,b2,(h.alloc _).alloc _,.of (((Below.refl _ w).alloc (Nat.le_refl _) _).alloc (by simp) _),h.lt⟩
end
theorem ZdE (s:InS)(e a:Nat)(he:e≠0):(s.fail e a).e≠0:=by
 unfold InS.fail;split
 · exact he
 · next h=>exact fun e0=>h ⟨e0,he⟩
theorem ZjI:∀b,Zs b≤b.length
 |[]=>Nat.le_refl _
 |x::r=>by have:=ZjI r;simp only [Zs,List.length_cons];split<;>omega
theorem ZlI (fb:Nat)(det:Bool)(s s':InS)(nt:Nt)(h:Zb7 (lfC fb det) s=(nt,s'))(he:s'.e=0):
 ∃(b:List UInt8) (at_:Nat),ZQ s=(b,at_,s')∧Zs b≠0∧b[Zs b]? =some 61∧lfC fb det (b.drop (Zs b+1))= .ok nt.leaf∧nt.name=b.take (Zs b):=by
 obtain⟨b,a,s1,e1⟩:∃b a s1,ZQ s=(b,a,s1):=⟨_,_,_,rfl⟩
 unfold Zb7 at h;rw [e1] at h;simp only at h;split at h
 · next h0=>injection h with _ h2;rw [←h2] at he;exact absurd he h0
 · split at h
   · injection h with _ h2;rw [←h2] at he;exact absurd he (ZdE _ _ _ (by decide))
   · next h1=>
     have h1a:Zs b≠0:=fun e=>h1 (.inl e);have h1b:b[Zs b]? =some 61:=Classical.byContradiction fun e=>h1 (.inr e);unfold ZdL at h;split at h
     · next l hl=>
       simp only [Prod.mk.injEq] at h;obtain⟨h2,h3⟩:=h;subst h2 h3;exact⟨b,a,e1,h1a,h1b,hl,rfl⟩
     · simp only [Prod.mk.injEq] at h;rw [←h.2] at he;exact absurd he (ZdE _ _ _ (by rename_i e _ hl;unfold lfC at hl;split at hl<;>cases hl;exact(by omega:(2:Nat)≠0)))
theorem ZqO (s:InS)(e a:Nat):(s.fail e a).base=s.base∧(s.fail e a).n=s.n:=by unfold InS.fail;split<;>exact⟨rfl,rfl⟩
theorem Ztt (s:InS)(k:Nat)(hf:s.n≤s.t.length):(s.take k).2.base=s.base∧(s.take k).2.n≤s.t.length:=by
 unfold InS.take;split
 · exact⟨rfl,hf⟩
 · split
   · have:=ZqO s 1 (s.place s.t.length);exact⟨this.1,by show(s.fail 1 _).n≤_;rw [this.2];exact hf⟩
   · exact⟨rfl,by show s.n+k≤s.t.length;omega⟩
theorem ZeH (s:InS)(k:Nat):(s.small k).2.t=s.t:=ZeL s _
theorem ZmZ (s:InS)(hf:s.n≤s.t.length)(hr:s.base+s.t.length≤1000000000):(ZQ s).2.1≤1000000000:=by
 have h1:(s.small 4).2.base=s.base∧(s.small 4).2.n≤s.t.length:=Ztt s _ hf;unfold ZQ;simp only;unfold InS.at_ InS.place ZfO;split<;>omega
theorem ZnJ (K:Nat)(s s':InS)(kd bud:Int)(fb:Nat)(det:Bool)(hfb:fb≤9)(nt:Nt)(hn:Zb7 (lfC fb det) s=(nt,s'))(he:s'.e=0)(hlen:s.t.length≤100000)(w:World)(hG:Grd w)(h:InAt w K s):
 Calls Tryz.prog 109 #[.agg (Z5 K kd bud fb det)] w (Zr K w (.agg #[.string (B nt.name),.string (B nt.leaf.text),.int .i64 (nt.leaf.set:Nat)]) s'):=by
 obtain⟨b,k,hsz,hn0,h61,hlf,hnm⟩:=ZlI fb det s s' nt hn he;have hszd:=fun w h=>Zjy K s kd bud fb det w h;unfold Zr at hszd;rw [hsz] at hszd;simp only at hszd;have hbl:b.length≤100000:=by
  have e:b=(ZQ s).1:=by rw [hsz]
  rw [e];unfold ZQ;simp only;refine Nat.le_trans (Ziq _ _) ?_;have:(s.small 4).2.t=s.t:=ZeH s 4;rw [this];exact hlen
 have hfl:=fun w h=>Zd7 K s' w h;rw [he] at hfl;have hbd:=fun w=>ZaG 0 s'.a rfl w;have hah:=fun w=>ZiL b (by omega) w;have hkl:k≤1000000000:=by
  have e:k=(ZQ s).2.1:=(by rw [hsz]);rw [e];exact ZmZ s h.fits h.room
 have hab:=ZjI b;have hle:=fun w hG h=>Zi5 K s' kd bud fb det (b.drop (Zs b+1)) (by simp;omega) (k+Zs b+1) (by omega) w hG h hfb;rw [hlf] at hle;unfold Zd5 Zr at hle;simp only at hle;obtain⟨hlt6,hb6⟩:∃hh:Zs b<b.length,b[Zs b]'hh=61:=List.getElem?_eq_some_iff.1 h61;have hge:=getB b (Zs b) hlt6;rw [hb6] at hge;have q1:((Zs b:Int)==0)=false:=by rw [beq_eq_false_iff_ne];omega
 have q2:((Zs b:Int)==(b.length:Int))=false:=by rw [beq_eq_false_iff_ne];omega
 have hsz2:=Zt b;have e1:(B b).extract 0 (Zs b)=B nt.name:=by rw [hnm,ZeV];simp
 have e2:(B b).extract (Zs b+1) b.length=B (b.drop (Zs b+1)):=by rw [ZeV,List.take_of_length_le (by simp)]
 have E1:=Lib.hid e1;have E2:=Lib.hid e2;have ST:=Lib.hid (NtSt.mk0 h (Z5 K kd bud fb det));have G0:=Lib.hid hG;generalize Zs b=n at*;generalize B nt.name=NM at*;generalize B nt.leaf.text=TX at*;generalize hP:Zr K w (.agg #[.string NM,.string TX,.int .i64 (nt.leaf.set:Nat)]) s'=P at*;have hP2:∀w',InAt w' K s'→But K w.heap.size w w'→P (.returned (.agg #[.string NM,.string TX,.int .i64 (nt.leaf.set:Nat)])) w':=fun w' h1 h2=>by rw [←hP];exact⟨rfl,h1,h2⟩
 have HP:=Lib.hid hP2;clear hP hP2 e1 e2 hn hsz h61 hlf hnm hG;obtain⟨x0,x1,x2,x3,x4⟩:=ST.out.sc.five;unfold Z5 at*;go_enter Tryz.func109,Tryz.ntmps109
 go_wp2_with (first
  |(go_at_call 106;refine(hszd _ ST.out.inn).mono ?_;rintro e w1 ⟨rfl,h1,hb1⟩;have S1:=Lib.hid (ST.out.butK h1 hb1);have y0:=S1.out.sc.cell 0;clear h1 hb1)
  |(go_at_call 52;refine(hfl _ S1.out.inn).mono ?_;rintro e w2 ⟨rfl,hb2⟩;have S2:=Lib.hid (S1.out.below hb2);clear hb2)
  |(go_at_call 8;refine(hbd _).mono ?_;rintro e w3 ⟨rfl,hb3⟩;have S3:=Lib.hid (S2.out.below hb3);clear hb3)
  |(go_at_call 144;refine(hah _).mono ?_;rintro e w4 ⟨rfl,hb4⟩;have S4:=Lib.hid (S3.out.below hb4);clear hb4))
 go_region
 go_wp2_with fail
 have E2':=E2.out;have E1':=E1.out;have wr1:IntKind.i64.wrap ((n:Int)+1)=(n:Int)+1:=by rw [IntKind.wrap_i64];omega
 have wr2:IntKind.i64.wrap ((k:Int)+n)=(k:Int)+n:=by rw [IntKind.wrap_i64];omega
 have wr3:IntKind.i64.wrap ((k:Int)+n+1)=(k:Int)+n+1:=by rw [IntKind.wrap_i64];omega
 have b1:(0:Int)≤(n:Int)+1:=by omega
 have b2:(n:Int)+1≤(b.length:Int):=by omega
 have b3:(0:Int)≤(n:Int):=by omega
 have b4:(n:Int)≤(b.length:Int):=by omega
 have b5:((n:Int)+1).toNat=n+1:=by omega
 go_region_held3 (fun w'=>w'.cell? ⟨w.heap.size,0,none⟩=some (.pointer (some ⟨K,0,none⟩))∧w'.cell? ⟨w.heap.size,1,none⟩=some (.int .i64 kd)∧w'.cell? ⟨w.heap.size,2,none⟩=some (.int .i64 (fb:Int))∧w'.cell? ⟨w.heap.size,3,none⟩=some (.bool det)∧w'.cell? ⟨w.heap.size,4,none⟩=some (.int .i64 bud))
  (first|exact(S4.out.drewN 1).sc.five|exact(S4.out.drewN 2).sc.five|exact S4.out.sc.five|with_reducible exact S5.out.sc.five|with_reducible exact(((S5.out.sc.set (k:=w.heap.size+1) (by omega) 0 _).set (k:=w.heap.size+1) (by omega) 1 _).set (k:=w.heap.size+1) (by omega) 2 _).five)
  (first|(go_at_call 107;refine(hle _ (G0.out.but h (S4.out.drewN 2).but) (S4.out.drewN 2).inn).mono ?_;rintro e w5 ⟨rfl,h5,hb5⟩;have S5:=Lib.hid ((S4.out.drewN 2).butK h5 hb5);clear h5 hb5;have r0:=S5.out.res.cell 0;have r1:=S5.out.res.cell 1;have r2:=S5.out.res.cell 2;have g0:=S5.out.res.free 0;have g1:=S5.out.res.free 1;have g2:=S5.out.res.free 2;have y50:=S5.out.sc.cell 0))
 go_wp2_with fail
 have z1:=Bx.three S5.out.res (.string NM) (.string TX) (.int .i64 (nt.leaf.set:Nat));have hltK:=h.lt;refine bodyPost_ret (results_cell_row rfl _ _ (w.heap.size+1) _ _ _ _ rfl z1 Tryz.underlying93 rfl (by kernel_rfl)) rfl ?_;exact HP.out _ (((S5.out.inn.set (by omega) 0 _).set (by omega) 1 _).set (by omega) 2 _) (((S5.out.but.setCell (p:=⟨w.heap.size+1,0,none⟩) (.inl (Nat.le_succ _)) _).setCell (p:=⟨w.heap.size+1,1,none⟩) (.inl (Nat.le_succ _)) _).setCell (p:=⟨w.heap.size+1,2,none⟩) (.inl (Nat.le_succ _)) _)
end Go.Proofs.YtlglfmbccihopaaGreatDoor
namespace Go.Proofs.YtlglfmbccihopaaGreatDoor
open Go Go.RowKit Go.ChangeShapes Go.WideShapes Go.Deep
theorem ZgU {α:Type} {R:Nat→α→Prop}:∀n:Nat,(∀i,i<n→∃p,R i p)→∃l:List α,l.length=n∧∀i p,l[i]? =some p→R i p
 |0,_=>⟨[],rfl,by simp⟩
 |n+1,h=>by
  obtain⟨l,hl,hR⟩:=ZgU n fun i hi=>h i (by omega);obtain⟨p,hp⟩:=h n (by omega);refine⟨l++[p],by simp [hl],fun i q hq=> ?_⟩;rcases Nat.lt_or_ge i n with h1|h1
  · rw [List.getElem?_append_left (by omega)] at hq;exact hR i q hq
  · have hlt:=(List.getElem?_eq_some_iff.1 hq).1;simp only [List.length_append,List.length_singleton] at hlt;obtain rfl:i=n:=by omega
    rw [List.getElem?_append_right (by omega),hl,Nat.sub_self] at hq;simp at hq;subst hq;exact hp
section
variable {H:Type} {enc:TypeId×Value→H} {w:World} {base:Nat} {spare:Nat→Bool} {held:Bool}
end
end Go.Proofs.YtlglfmbccihopaaGreatDoor
