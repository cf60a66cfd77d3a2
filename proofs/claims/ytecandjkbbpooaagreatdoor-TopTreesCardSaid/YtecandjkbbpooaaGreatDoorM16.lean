/- Lemmas for a statement on the tops; conditions: as each says. -/
import Derived.Deep.RegionHeld3
import Derived.Test.YtecandjkbbpooaaGreatDoorM15
set_option linter.unusedVariables false
set_option linter.unusedSimpArgs false
set_option maxRecDepth 100000
set_option maxHeartbeats 4000000
namespace Go.Proofs.YtecandjkbbpooaaGreatDoor
open Go Go.RowKit
def three (v:Int)(rev fl:UInt8):Array Value:=#[.int .i64 v,.int .u8 rev.toNat,.int .u8 fl.toNat]
def Zjc (K:Nat)(w:World)(r:(Nat×UInt8×UInt8)×InS)(e:Ending)(w':World):Prop:=
 e= .returned (.agg (three r.1.1 r.1.2.1 r.1.2.2))∧InAt w' K r.2∧But K w.heap.size w w'
structure HSt (w0 wx:World)(K R T:Nat)(v:Int)(rev fl:UInt8)(s:InS):Prop where
 hd:Bx wx T (three v rev fl) 23
 inn:InAt wx K s
 res:Bx wx R (three 0 0 0) 23
 but:But K w0.heap.size w0 wx
 hK:K<w0.heap.size
 hR:R=w0.heap.size
 hT:R<T
section
variable {w0 w w':World} {T R K:Nat} {v:Int} {rev fl:UInt8} {s s':InS}
theorem HSt.below (h:HSt w0 w K R T v rev fl s)(hb:Below w.heap.size w w'):HSt w0 w' K R T v rev fl s:=
 ⟨h.hd.below hb,h.inn.below hb,h.res.below hb,h.but.trans (.of (hb.mono h.but.size)),h.hK,h.hR,h.hT⟩
theorem HSt.butK (h:HSt w0 w K R T v rev fl s)(hi:InAt w' K s')(hb:But K w.heap.size w w'):HSt w0 w' K R T v rev fl s':=
 ⟨h.hd.but hb (by have:=h.hT;have:=h.hR;have:=h.hK;omega),hi,h.res.but hb (by have:=h.hK;have:=h.hR;omega),h.but.trans (hb.mono h.but.size),h.hK,h.hR,h.hT⟩
theorem HSt.drewN (h:HSt w0 w K R T v rev fl s)(n:Nat):HSt w0 (w.drewN n) K R T v rev fl s:=
 h.below (below_drewN (Below.refl _ _) n)
theorem HSt.cells (h:HSt w0 w K R T v rev fl s):(w.cell? ⟨T,0,none⟩=some (.int .i64 v)∧w.cell? ⟨T,1,none⟩=some (.int .u8 rev.toNat)∧w.cell? ⟨T,2,none⟩=some (.int .u8 fl.toNat))∧
 (w.cell? ⟨R,0,none⟩=some (.int .i64 0)∧w.cell? ⟨R,1,none⟩=some (.int .u8 0)∧w.cell? ⟨R,2,none⟩=some (.int .u8 0))∧(∀j,w.frozen? ⟨R,j,none⟩=false)∧T<w.heap.size∧R<w.heap.size:=
 ⟨⟨h.hd.cell 0,h.hd.cell 1,h.hd.cell 2⟩,⟨h.res.cell 0,h.res.cell 1,h.res.cell 2⟩,h.res.free,h.hd.lt,h.res.lt⟩
end
theorem Bx.three {w:World} {g:Nat} {T:TypeId} {x0 x1 x2:Value} (h:Bx w g #[x0,x1,x2] T)(a b c:Value):Bx (((w.setCell ⟨g,0,none⟩ a).setCell ⟨g,1,none⟩ b).setCell ⟨g,2,none⟩ c) g #[a,b,c] T:=by
 have h0:Bx (w.setCell ⟨g,0,none⟩ a) g #[a,x1,x2] T:=h.put 0 a;have h1:Bx _ g #[a,b,x2] T:=h0.put 1 b;exact h1.put 2 c
theorem ZnX (K:Nat)(s:InS)(w:World)(h:InAt w K s):
 Calls Tryz.prog 99 #[.pointer (some ⟨K,0,none⟩)] w (Zjc K w (Zci s)):=by
 obtain⟨q,hq⟩:∃q,q=(s.want ZB).2:=⟨_,rfl⟩
 obtain⟨a,ha⟩:∃a,a=q.big 1:=⟨_,rfl⟩
 obtain⟨b,hb⟩:∃b,b=a.2.big 1:=⟨_,rfl⟩
 obtain⟨c,hc⟩:∃c,c=b.2.big 1:=⟨_,rfl⟩
 obtain⟨v,hv⟩:∃v:Nat,v=a.1:=⟨_,rfl⟩
 obtain⟨rev,hrev⟩:∃rev:UInt8,rev=UInt8.ofNat b.1:=⟨_,rfl⟩
 obtain⟨fl,hfl⟩:∃fl:UInt8,fl=UInt8.ofNat c.1:=⟨_,rfl⟩
 obtain⟨s1,hs1⟩:∃s1,s1=if Zx v=0 then c.2.fail 3 3 else c.2:=⟨_,rfl⟩
 obtain⟨s2,hs2⟩:∃s2,s2=if rev=255 then s1.fail 1 4 else s1:=⟨_,rfl⟩
 obtain⟨s3,hs3⟩:∃s3,s3=if fl&&& ~~~(Zbn v)≠0 then s2.fail 1 5 else s2:=⟨_,rfl⟩
 obtain⟨s4,hs4⟩:∃s4,s4=if v=2∧fl&&&0x40≠0 then s3.fail 3 5 else s3:=⟨_,rfl⟩
 have hR:Zci s=if c.2.e≠0 then((0,0,0),c.2) else((v,rev,fl),s4):=by
  subst hs4 hs3 hs2 hs1 hfl hrev hv hc hb ha hq;rfl
 generalize hP:Zjc K w (Zci s)=P at*;have hal:=Zcs q 1 (by omega);have hbl:=Zcs a.2 1 (by omega);have hcl:=Zcs b.2 1 (by omega);rw [←ha] at hal;rw [←hb] at hbl;rw [←hc] at hcl;have e1:(256:Nat)^1=256:=by decide
 rw [e1] at hal hbl hcl;have hwn:=fun w h=>Zhd K s ZB (by decide) w h;rw [←hq] at hwn;have hba:=fun w h=>ZcN K q 1 (by omega) w h;have hbb:=fun w h=>ZcN K a.2 1 (by omega) w h;have hbc:=fun w h=>ZcN K b.2 1 (by omega) w h;rw [←ha] at hba;rw [←hb] at hbb;rw [←hc] at hbc;unfold Zf at hwn hba hbb hbc;rw [←hv] at hba;have hvl:v<256:=by omega
 have hrn:b.1=rev.toNat:=by have:=Zh8 b.1 hbl;rw [←hrev] at this;omega
 have hfn:c.1=fl.toNat:=by have:=Zh8 c.1 hcl;rw [←hfl] at this;omega
 rw [hrn] at hbb;rw [hfn] at hbc;have hrl:=rev.toNat_lt;have hfl2:=fl.toNat_lt;have Hs1:=Lib.hid hs1;have Hs2:=Lib.hid hs2;have Hs3:=Lib.hid hs3;have Hs4:=Lib.hid hs4;have HR:=Lib.hid hR;have hfa:=fun w h=>Zcp K c.2 w h;have H:=Lib.hid h;have hKl:=h.lt;clear h hq ha hb hc hv hrev hfl hs1 hs2 hs3 hs4 hR e1 hal hrn hfn hbl hcl;go_enter Tryz.func99,Tryz.ntmps99
 go_upto_region 3 with(first
  |(go_at_call 51;refine(hwn _ (H.out.alloc _)).mono ?_;rintro e w1 ⟨rfl,h1,hb1⟩;have H1:=Lib.hid h1;have B1:=Lib.hid (Zhq hb1);have R1:=Lib.hid ((Bx.new w _ _).but hb1 (by omega));have hz1:=hb1.size;simp only [World.size_alloc] at hz1;clear h1 hb1)
  |(go_at_call 56;refine(hba _ H1.out).mono ?_;rintro e w2 ⟨rfl,h2,hb2⟩;have H2:=Lib.hid h2;have B2:=Lib.hid (B1.out.trans (hb2.mono B1.out.size));have R2:=Lib.hid (R1.out.but hb2 (by omega));have hz2:=hb2.size;clear h2 hb2)
  |(go_at_call 56;refine(hbb _ H2.out).mono ?_;rintro e w3 ⟨rfl,h3,hb3⟩;have H3:=Lib.hid h3;have B3:=Lib.hid (B2.out.trans (hb3.mono B2.out.size));have R3:=Lib.hid (R2.out.but hb3 (by omega));have hz3:=hb3.size;clear h3 hb3)
  |(go_at_call 56;refine(hbc _ H3.out).mono ?_;rintro e w4 ⟨rfl,h4,hb4⟩;have H4:=Lib.hid h4;have B4:=Lib.hid (B3.out.trans (hb4.mono B3.out.size));have R4:=Lib.hid (R3.out.but hb4 (by omega));have hz4:=hb4.size;clear h4 hb4))
 have ST:Hid (HSt w (w4.alloc (.cells (three v rev fl) 23)) K w.heap.size w4.heap.size v rev fl c.2):=Lib.hid ⟨Bx.new w4 _ _,H4.out.alloc _,R4.out.alloc _,B4.out.alloc B4.out.size _,hKl,rfl,by omega⟩;obtain⟨⟨d0,d1,d2⟩,⟨r0,r1,r2⟩,f0,l1,l2⟩:=ST.out.cells;have hd0:=Lib.hid d0;by_cases hE:c.2.e=0
 · have hRR:=HR.out;rw [if_neg (by simpa using hE)] at hRR;have HRR:=Lib.hid hRR;have hbd:=fun w=>ZT (c.2.e:Int) c.2.a (by omega) w;clear hRR hE;have hlt:=fun w=>ZeU (v:Int) w;rw [Int.toNat_natCast] at hlt;have hal:=fun w=>ZiZ (v:Int) w;rw [Int.toNat_natCast] at hal;obtain⟨x8,hx8⟩:∃x8,x8=fl&&& ~~~(Zbn v):=⟨_,rfl⟩
   have han:=ZfU fl (Zbn v).toNat (Zbn v) rfl;rw [←hx8] at han;have h3:=Hs3.out;rw [←hx8] at h3;have Hs3':=Lib.hid h3;clear h3 hx8 Hs3;generalize Zbn v=al8 at*
   go_upto_if 23 with(first
    |(go_at_call 53;refine(hfa _ ST.out.inn).mono ?_;rintro e w5 ⟨rfl,hb5⟩;have ST2:=Lib.hid (ST.out.below hb5);clear hb5)
    |(go_at_call 7;refine(hbd _).mono ?_;rintro e w6 ⟨rfl,hb6⟩;have ST3:=Lib.hid (ST2.out.below hb6);clear hb6 d0 d1 d2 r0 r1 r2 f0 l1 l2;obtain⟨⟨d0,d1,d2⟩,⟨r0,r1,r2⟩,f0,l1,l2⟩:=ST3.out.cells)
    |(go_at_call 147;refine(hlt _).mono ?_;rintro e w7 ⟨rfl,rfl⟩))
   go_cut [] (fun wx=>HSt w wx K w.heap.size w4.heap.size v rev fl s1)
   case first=>
    by_cases h0:Zx v=0
    · have hv:((Zx v:Int)==0)=true:=by rw [h0];rfl
      have hq:=Hs1.out;rw [if_pos h0] at hq;have hf:=fun w h=>Za5 K c.2 3 3 (by decide) (by decide) w h;rw [show(3:Int).toNat=3 from rfl,←hq] at hf;unfold Zf at hf;clear hq h0;go_wp2_with (go_at_call 110;refine(hf _ ST3.out.inn).mono ?_;rintro e w8 ⟨rfl,h8,hb8⟩)
      go_meet
      exact ST3.out.butK h8 hb8
    · have hv:((Zx v:Int)==0)=false:=by rw [beq_eq_false_iff_ne];omega
      have hq:=Hs1.out;rw [if_neg h0] at hq;have Hq:=Lib.hid hq;clear hq h0;go_wp2_with fail
      go_meet
      rw [Hq.out];exact ST3.out
   have ST4:=Lib.hid hcut;clear hcut d0 d1 d2 r0 r1 r2 f0 l1 l2;obtain⟨⟨d0,d1,d2⟩,⟨r0,r1,r2⟩,f0,l1,l2⟩:=ST4.out.cells
   go_upto_if 28 with fail
   go_cut [] (fun wx=>HSt w wx K w.heap.size w4.heap.size v rev fl s2)
   case first=>
    by_cases h0:rev=255
    · have hv:((rev.toNat:Int)==255)=true:=by rw [h0];rfl
      have hq:=Hs2.out;rw [if_pos h0] at hq;have hf:=fun w h=>Za5 K s1 1 4 (by decide) (by decide) w h;rw [show(1:Int).toNat=1 from rfl,show(4:Int).toNat=4 from rfl,←hq] at hf;unfold Zf at hf;clear hq h0;go_wp2_with (go_at_call 110;refine(hf _ ST4.out.inn).mono ?_;rintro e w8 ⟨rfl,h8,hb8⟩)
      go_meet
      exact ST4.out.butK h8 hb8
    · have hv:((rev.toNat:Int)==255)=false:=by rw [beq_eq_false_iff_ne];exact fun e=>h0 (UInt8.toNat_inj.1 (by show rev.toNat=255;omega))
      have hq:=Hs2.out;rw [if_neg h0] at hq;have Hq:=Lib.hid hq;clear hq h0;go_wp2_with fail
      go_meet
      rw [Hq.out];exact ST4.out
   have ST5:=Lib.hid hcut;clear hcut d0 d1 d2 r0 r1 r2 f0 l1 l2;obtain⟨⟨d0,d1,d2⟩,⟨r0,r1,r2⟩,f0,l1,l2⟩:=ST5.out.cells;go_wp2_with fail
   go_quiet ((go_at_call 146;exact Calls.quiet_of_same ((hal _).mono fun _ _ ⟨a,b⟩=>⟨a,b.symm⟩)))
   have ST6:=Lib.hid (ST5.out.drewN nq)
   go_upto_if 37 with fail
   go_cut [] (fun wx=>HSt w wx K w.heap.size w4.heap.size v rev fl s3)
   case first=>
    by_cases h0:x8=0
    · have hv:((x8.toNat:Int) !=0)=false:=by rw [h0];rfl
      have hq:=Hs3'.out;rw [if_neg (by simpa using h0)] at hq;have Hq:=Lib.hid hq;clear hq h0;go_wp2_with fail
      go_meet
      rw [Hq.out];exact ST6.out
    · have hv:((x8.toNat:Int) !=0)=true:=by rw [Zdk];simpa using h0
      have hq:=Hs3'.out;rw [if_pos h0] at hq;have hf:=fun w h=>Za5 K s2 1 5 (by decide) (by decide) w h;rw [show(1:Int).toNat=1 from rfl,show(5:Int).toNat=5 from rfl,←hq] at hf;unfold Zf at hf;clear hq h0;go_wp2_with (go_at_call 110;refine(hf _ ST6.out.inn).mono ?_;rintro e w8 ⟨rfl,h8,hb8⟩)
      go_meet
      exact ST6.out.butK h8 hb8
   have ST7:=Lib.hid hcut;clear hcut d0 d1 d2 r0 r1 r2 f0 l1 l2;obtain⟨⟨d0,d1,d2⟩,⟨r0,r1,r2⟩,f0,l1,l2⟩:=ST7.out.cells;go_upto_region 11 with fail
   go_cut [48] (fun s48 wx=>s48= .bool (decide (v=2)&&(fl&&&64 !=0))∧HSt w wx K w.heap.size w4.heap.size v rev fl s3)
   case first=>
    have hb:=Zcd fl 64 64 rfl;have HN:=Lib.hid (Zc2 fl 64 64 rfl);by_cases h2:v=2
    · subst h2;go_wp2_with fail
      go_meet
      exact⟨by rw [←HN.out];rfl,ST7.out⟩
    · have hv:((v:Int)==2)=false:=by rw [beq_eq_false_iff_ne];omega
      have Hd:Hid (decide (v=2)=false):=Lib.hid (by simpa using h2);clear h2;go_wp2_with fail
      go_meet
      exact⟨by rw [Hd.out];rfl,ST7.out⟩
   obtain⟨rfl,hcut⟩:=hcut;have ST8:=Lib.hid hcut;clear hcut d0 d1 d2 r0 r1 r2 f0 l1 l2;obtain⟨⟨d0,d1,d2⟩,⟨r0,r1,r2⟩,f0,l1,l2⟩:=ST8.out.cells
   go_upto_if 48 with fail
   go_cut [] (fun wx=>HSt w wx K w.heap.size w4.heap.size v rev fl s4)
   case first=>
    cases hbb:(decide (v=2)&&(fl&&&64 !=0)) with
    |true=>
     have hq:=Hs4.out;rw [Bool.and_eq_true,decide_eq_true_eq] at hbb;rw [if_pos ⟨hbb.1,by simpa using hbb.2⟩] at hq;have hf:=fun w h=>Za5 K s3 3 5 (by decide) (by decide) w h;rw [show(3:Int).toNat=3 from rfl,show(5:Int).toNat=5 from rfl,←hq] at hf;unfold Zf at hf;clear hq hbb;go_wp2_with (go_at_call 110;refine(hf _ ST8.out.inn).mono ?_;rintro e w8 ⟨rfl,h8,hb8⟩)
     go_meet
     exact ST8.out.butK h8 hb8
    |false=>
     have hq:=Hs4.out;rw [if_neg (by
      rintro⟨h1,h2⟩;rw [h1] at hbb;simp at hbb;exact h2 hbb)] at hq
     have Hq:=Lib.hid hq;clear hq hbb;go_wp2_with fail
     go_meet
     rw [Hq.out];exact ST8.out
   have ST9:=Lib.hid hcut;clear hcut d0 d1 d2 r0 r1 r2 f0 l1 l2;obtain⟨⟨d0,d1,d2⟩,⟨r0,r1,r2⟩,f0,l1,l2⟩:=ST9.out.cells;go_wp2_with fail
   have hr:=ST9.out.res.three (.int .i64 v) (.int .u8 rev.toNat) (.int .u8 fl.toNat);refine bodyPost_ret (results_cell_row rfl _ _ w.heap.size _ _ _ _ rfl hr Tryz.underlying23 rfl (by kernel_rfl)) rfl ?_;rw [←hP,HRR.out];exact⟨rfl,((ST9.out.inn.set (by omega) _ _).set (by omega) _ _).set (by omega) _ _,((ST9.out.but.setCell (p:=⟨w.heap.size,0,none⟩) (.inl (Nat.le_refl _)) _).setCell (p:=⟨w.heap.size,1,none⟩) (.inl (Nat.le_refl _)) _).setCell (p:=⟨w.heap.size,2,none⟩) (.inl (Nat.le_refl _)) _⟩
 · have hRR:=HR.out;rw [if_pos hE] at hRR;have HRR:=Lib.hid hRR;have hbd:=fun w=>Zaq (c.2.e:Int) c.2.a (by omega) w;clear hRR hE;go_wp2_with (first
    |(go_at_call 53;refine(hfa _ ST.out.inn).mono ?_;rintro e w5 ⟨rfl,hb5⟩;have ST2:=Lib.hid (ST.out.below hb5);clear hb5)
    |(go_at_call 7;refine(hbd _).mono ?_;rintro e w6 ⟨rfl,hb6⟩;have ST3:=Lib.hid (ST2.out.below hb6);clear hb6 d0 d1 d2 r0 r1 r2 f0 l1 l2;obtain⟨⟨d0,d1,d2⟩,⟨r0,r1,r2⟩,f0,l1,l2⟩:=ST3.out.cells))
   have hr:=ST3.out.res.three (.int .i64 0) (.int .u8 0) (.int .u8 0);refine bodyPost_ret (results_cell_row rfl _ _ w.heap.size _ _ _ _ rfl hr Tryz.underlying23 rfl (by kernel_rfl)) rfl ?_;rw [←hP,HRR.out];exact⟨rfl,((ST3.out.inn.set (by omega) _ _).set (by omega) _ _).set (by omega) _ _,((ST3.out.but.setCell (p:=⟨w.heap.size,0,none⟩) (.inl (Nat.le_refl _)) _).setCell (p:=⟨w.heap.size,1,none⟩) (.inl (Nat.le_refl _)) _).setCell (p:=⟨w.heap.size,2,none⟩) (.inl (Nat.le_refl _)) _⟩
def Zi {α:Type} (f:α→List Value)(B:Nat)(w:World)(v:Value)(l:List α):Prop:=
 (l=[]∧v= .slice none 0 0)∨∃bk c:Nat,l≠[]∧v= .slice (some ⟨bk,0,none⟩) l.length c∧l.length≤c∧B≤bk∧bk<w.heap.size∧∀j u,(l.flatMap f)[j]? =some u→w.cell? ⟨bk,j,none⟩=some u
section
variable {α:Type} {m:Nat} {f:α→List Value} {B:Nat} {w w':World} {v:Value} {l:List α}
theorem Zi.below (h:Zi f B w v l)(hb:Below w.heap.size w w'):Zi f B w' v l:=by
 rcases h with h|⟨bk,c,h0,h1,h2,h5,h3,h4⟩
 · exact .inl h
 · exact .inr ⟨bk,c,h0,h1,h2,h5,Nat.lt_of_lt_of_le h3 hb.size,fun j u hu=>(hb.cell (p:=⟨bk,j,none⟩) h3).trans (h4 j u hu)⟩
theorem Zi.but {C:Nat} (h:Zi f B w v l)(hb:But C w.heap.size w w')(hC:C<B):Zi f B w' v l:=by
 rcases h with h|⟨bk,c,h0,h1,h2,h5,h3,h4⟩
 · exact .inl h
 · exact .inr ⟨bk,c,h0,h1,h2,h5,Nat.lt_of_lt_of_le h3 hb.size,fun j u hu=>(hb.cell (p:=⟨bk,j,none⟩) h3 (by show bk≠C;omega)).trans (h4 j u hu)⟩
theorem Zi.low {B':Nat} (h:Zi f B w v l)(hB:B'≤B):Zi f B' w v l:=by
 rcases h with h|⟨bk,c,h0,h1,h2,h5,h3,h4⟩
 · exact .inl h
 · exact .inr ⟨bk,c,h0,h1,h2,by omega,h3,h4⟩
theorem Zi.len (h:Zi f B w v l):∃A c,v= .slice A l.length c∧l.length≤c:=by
 rcases h with⟨h,h1⟩|⟨bk,c,h0,h1,h2,_⟩
 · subst h;exact⟨none,0,h1,Nat.le_refl _⟩
 · exact⟨_,c,h1,h2⟩
theorem Zi.of_own {base:Nat} {e:TypeId} {n:Nat} (hn:n=l.length)(h:w.ownsRow base e m v n (l.flatMap f))(h0:l=[]→v= .slice none 0 0):Zi f base w v l:=by
 by_cases hl:l=[]
 · exact .inl ⟨hl,h0 hl⟩
 · right
   rcases h.2 with⟨_,h1⟩|⟨g,cap,cur,rfl,hb,hg,hnc,hcm,hcs,htake⟩
   · rw [hn] at h1;exact absurd (List.length_eq_zero_iff.1 h1) hl
   · subst hn;refine⟨g,cap,hl,rfl,hnc,hb,(Array.getElem?_eq_some_iff.1 hg).1,fun j u hu=> ?_⟩;have:=h.cells (g:=g) rfl j u hu;have hadd:(⟨g,0,none⟩:Addr).add j=⟨g,j,none⟩:=by unfold Addr.add;split<;>simp_all
     rw [hadd] at this;exact this
end
theorem Zga {α:Type} (m:Nat)(f:α→List Value)(hf:∀x,(f x).length=m):∀l:List α,(l.flatMap f).length=l.length*m
 |[]=>by simp
 |x::l=>by rw [List.flatMap_cons,List.length_append,hf,Zga m f hf l,List.length_cons,Nat.succ_mul];omega
theorem Zet {α:Type} (m:Nat)(f:α→List Value)(hf:∀x,(f x).length=m):∀(l:List α) (k j:Nat) (x:α),l[k]? =some x→j<m→(l.flatMap f)[k*m+j]? =(f x)[j]?
 |y::l,0,j,x,h,hj=>by
  simp only [List.getElem?_cons_zero,Option.some.injEq] at h;subst h;rw [List.flatMap_cons,List.getElem?_append_left (by rw [hf];omega)];congr 1
  omega
 |y::l,k+1,j,x,h,hj=>by
  rw [List.getElem?_cons_succ] at h;rw [List.flatMap_cons,List.getElem?_append_right (by rw [hf,Nat.succ_mul];omega),hf,←Zet m f hf l k j x h hj];congr 1
  rw [Nat.succ_mul];omega
theorem Zfo (w:World)(cs:List Value)(T:TypeId):∀j u,cs[j]? =some u→(w.alloc (.cells cs.toArray T)).cell? ((⟨w.heap.size,0,none⟩:Addr).add j)=some u:=by
 intro j u hu;have hadd:(⟨w.heap.size,0,none⟩:Addr).add j=⟨w.heap.size,j,none⟩:=by unfold Addr.add;split<;>simp_all
 rw [hadd,cell_of_row _ w.heap.size j _ T (0,0) (heap_alloc_new w _)];simpa using hu
def frV (f:Fr):List Value:=[.string (B f.id),.int .u8 f.st.toNat,.int .u8 f.fm.toNat,.int .u8 f.grp.toNat,.string (B f.body),.int .i64 f.at_]
theorem ZqQ (f:Fr):(frV f).length=6:=rfl
theorem ZqS:(Tryz.prog.info? 34).map (fun i=>(i.zero,i.size,i.bytes))=some (some (.agg zero6),6,56):=by kernel_rfl
section
variable {ops:Array Oper} {rest:List Oper} {o:Oper} {a:Act} {Q:Exit→Act→World→Prop}
theorem ZjW (hgd:o.guard=none)(s x:Operand)(ho:o.op= .call {callee:= .builtin .append,args:=#[s,x],argTypes:=#[82,82]}) (base:Nat) (v:Value) (L:List Fr) (hs:a.eval s=v) (W:World) (f:Fr)
 (hown:W.ownsRow base 34 6 v L.length (L.flatMap frV)) (hbase:base≤W.heap.size) (hlen:L.length≤16777216) (hx:a.eval x= .slice (some ⟨W.heap.size,0,none⟩) 1 1)
 (h:∀v' w',Hid (w'.ownsRow base 34 6 v' (L++[f]).length ((L++[f]).flatMap frV))→Below base W w'→wpList Tryz.prog ops Q rest (a.put o.dst v') w'):
 wpList Tryz.prog ops Q (o::rest) a (W.alloc (.cells #[.string (B f.id),.int .u8 f.st.toNat,.int .u8 f.fm.toNat,.int .u8 f.grp.toNat,.string (B f.body),.int .i64 f.at_] 34)):=by
 obtain⟨i0,hi,iz0,iz1,iz2⟩:=info_parts ZqS;refine wpList_append_own _ hgd s x 82 ho base 34 i0 _ 6 56 Tryz.underlying82 hi iz0 iz1 iz2 rfl (by decide) v L.length _ hs (hown.alloc _) ⟨W.heap.size,0,none⟩ 1 1 (frV f) hx rfl (Zfo W (frV f) _) ?_ (by unfold maxLen;omega) (by omega) (by simp;omega) ?_
 · intro u hu;simp only [frV,List.mem_cons,List.not_mem_nil,or_false] at hu;rcases hu with rfl|rfl|rfl|rfl|rfl|rfl<;>rfl
 · intro v6 w6 hown6 hg6 _;refine h v6 w6 (Lib.hid ?_) (Zaa ((Below.refl _ W).alloc hbase _) (hown.alloc _) hg6 (by simp;omega) (Nat.le_refl _));rw [List.flatMap_append,List.length_append];simpa [frV] using hown6
end
def lenV:Value→Nat
 | .slice _ n _=>n
 |_=>0
theorem ZaL {w:World} {base:Nat} {e:TypeId} {size:Nat} {v:Value} {n:Nat} {xs:List Value} (h:w.ownsRow base e size v n xs):lenV v=n∧∃A c,v= .slice A n c∧n≤c:=by
 rcases h.2 with⟨rfl,rfl⟩|⟨g,cap,cur,rfl,hb,hg,hnc,_⟩
 · exact⟨rfl,none,0,rfl,Nat.le_refl _⟩
 · exact⟨rfl,_,_,rfl,hnc⟩
theorem Zfj (l:List UInt8):∀i,i≤l.length→(∀j (h:j<l.length),j<i→l[j]=0)→ZbE l=(ZbE (l.drop i)).map (· +i)
 |0,_,_=>by simp
 |i+1,hi,h=>by
  rw [Zfj l i (by omega) (fun j hj hji=>h j hj (by omega)),List.drop_eq_getElem_cons (show i<l.length by omega),ZbE];rw [if_pos (h i (by omega) (by omega)),Option.map_map];congr 1
  funext x;simp;omega
def ZfJ (K:Nat)(w:World)(r:List Fr×InS)(e:Ending)(w':World):Prop:=∃vl,e= .returned vl∧Zi frV w.heap.size w' vl r.1∧InAt w' K r.2∧But K w.heap.size w w'
structure LSt (w0 wx:World)(K:Nat)(v:Int)(rev fl:UInt8)(fs:List Fr)(vl:Value)(s:InS):Prop where
 hd:Bx wx w0.heap.size (three v rev fl) 23
 inn:InAt wx K s
 own:wx.ownsRow (w0.heap.size+1) 34 6 vl fs.length (fs.flatMap frV)
 nil_:fs=[]→vl= .slice none 0 0
 but:But K w0.heap.size w0 wx
 hK:K<w0.heap.size
section
variable {w0 w w':World} {K:Nat} {v:Int} {rev fl:UInt8} {fs:List Fr} {vl:Value} {s s':InS}
theorem LSt.below (h:LSt w0 w K v rev fl fs vl s)(hb:Below w.heap.size w w'):LSt w0 w' K v rev fl fs vl s:=
 ⟨h.hd.below hb,h.inn.below hb,ZE h.own hb,h.nil_,h.but.trans (.of (hb.mono h.but.size)),h.hK⟩
theorem LSt.butK (h:LSt w0 w K v rev fl fs vl s)(hi:InAt w' K s')(hb:But K w.heap.size w w'):LSt w0 w' K v rev fl fs vl s':=
 ⟨h.hd.but hb (by have:=h.hK;omega),hi,Zdn h.own hb (by have:=h.hK;omega),h.nil_,h.but.trans (hb.mono h.but.size),h.hK⟩
theorem LSt.alloc (h:LSt w0 w K v rev fl fs vl s)(o:Obj):LSt w0 (w.alloc o) K v rev fl fs vl s:=h.below ((Below.refl _ _).alloc (Nat.le_refl _) _)
theorem LSt.drewN (h:LSt w0 w K v rev fl fs vl s)(n:Nat):LSt w0 (w.drewN n) K v rev fl fs vl s:=h.below (below_drewN (Below.refl _ _) n)
theorem LSt.drew (h:LSt w0 w K v rev fl fs vl s):LSt w0 w.drew K v rev fl fs vl s:=h.below (below_drewN (Below.refl _ _) 1)
theorem LSt.cells (h:LSt w0 w K v rev fl fs vl s):(w.cell? ⟨w0.heap.size,0,none⟩=some (.int .i64 v)∧w.cell? ⟨w0.heap.size,1,none⟩=some (.int .u8 rev.toNat)∧w.cell? ⟨w0.heap.size,2,none⟩=some (.int .u8 fl.toNat))∧w0.heap.size<w.heap.size∧w0.heap.size+1≤w.heap.size:=
 ⟨⟨h.hd.cell 0,h.hd.cell 1,h.hd.cell 2⟩,h.hd.lt,h.hd.lt⟩
end
structure RSt (w0 wx:World)(K F:Nat)(v:Int)(rev fl:UInt8)(fs:List Fr)(vl:Value)(s:InS)(f:Fr):Prop where
 st:LSt w0 wx K v rev fl fs vl s
 frame:Zp wx F f
def ZdA:Fr:=⟨[],0,0,0,[],0⟩
theorem ZeG {B g:Nat} {w wx:World} (h:Below B w wx)(hg:B≤g)(q b c d e f:Value):Below B w ((((((wx.setCell ⟨g,0,none⟩ q).setCell ⟨g,1,none⟩ b).setCell ⟨g,2,none⟩ c).setCell ⟨g,3,none⟩ d).setCell ⟨g,4,none⟩ e).setCell ⟨g,5,none⟩ f):=
 (((((h.setCell (p:=⟨g,0,none⟩) hg q).setCell (p:=⟨g,1,none⟩) hg b).setCell (p:=⟨g,2,none⟩) hg c).setCell (p:=⟨g,3,none⟩) hg d).setCell (p:=⟨g,4,none⟩) hg e).setCell (p:=⟨g,5,none⟩) hg f
theorem Zng {w:World} {g:Nat} {T:TypeId} (h:Bx w g #[.string ⟨#[]⟩,.int .u8 0,.int .u8 0,.int .u8 0,.string ⟨#[]⟩,.int .i64 0] T):
 (w.cell? ⟨g,0,none⟩=some (.string ⟨#[]⟩)∧w.cell? ⟨g,1,none⟩=some (.int .u8 0)∧w.cell? ⟨g,2,none⟩=some (.int .u8 0)∧w.cell? ⟨g,3,none⟩=some (.int .u8 0)∧w.cell? ⟨g,4,none⟩=some (.string ⟨#[]⟩)∧w.cell? ⟨g,5,none⟩=some (.int .i64 0))∧(∀j,w.frozen? ⟨g,j,none⟩=false)∧g<w.heap.size:=
 ⟨⟨h.cell 0,h.cell 1,h.cell 2,h.cell 3,h.cell 4,h.cell 5⟩,h.free,h.lt⟩
theorem Bx.set6 {w:World} {k g:Nat} {cs:Array Value} {T:TypeId} (h:Bx w k cs T)(hk:k≠g)(q b c d e f:Value):Bx ((((((w.setCell ⟨g,0,none⟩ q).setCell ⟨g,1,none⟩ b).setCell ⟨g,2,none⟩ c).setCell ⟨g,3,none⟩ d).setCell ⟨g,4,none⟩ e).setCell ⟨g,5,none⟩ f) k cs T:=
 (((((h.set hk 0 q).set hk 1 b).set hk 2 c).set hk 3 d).set hk 4 e).set hk 5 f
theorem ZpG (w:World)(g B:Nat)(q b c d e f:Value):But g B w ((((((w.setCell ⟨g,0,none⟩ q).setCell ⟨g,1,none⟩ b).setCell ⟨g,2,none⟩ c).setCell ⟨g,3,none⟩ d).setCell ⟨g,4,none⟩ e).setCell ⟨g,5,none⟩ f):=
 ((((((But.refl g B w).setCell (p:=⟨g,0,none⟩) (.inr rfl) q).setCell (p:=⟨g,1,none⟩) (.inr rfl) b).setCell (p:=⟨g,2,none⟩) (.inr rfl) c).setCell (p:=⟨g,3,none⟩) (.inr rfl) d).setCell (p:=⟨g,4,none⟩) (.inr rfl) e).setCell (p:=⟨g,5,none⟩) (.inr rfl) f
theorem LSt.six {w0 w:World} {K g:Nat} {v:Int} {rev fl:UInt8} {fs:List Fr} {vl:Value} {s:InS} (h:LSt w0 w K v rev fl fs vl s)(h1:w0.heap.size<g)(h3:∀k,vl.ownBlock=some k→k<g)(q b c d e f:Value):
 LSt w0 ((((((w.setCell ⟨g,0,none⟩ q).setCell ⟨g,1,none⟩ b).setCell ⟨g,2,none⟩ c).setCell ⟨g,3,none⟩ d).setCell ⟨g,4,none⟩ e).setCell ⟨g,5,none⟩ f) K v rev fl fs vl s:=
 ⟨h.hd.set6 (by omega) _ _ _ _ _ _,h.inn.set6 (by have:=h.hK;omega) _ _ _ _ _ _,h.own.kept (row:=some g) (ZpE (ZpG w g _ q b c d e f)) (.inr fun e=>by have:=h3 g e;omega),h.nil_,h.but.set6 (by omega) _ _ _ _ _ _,h.hK⟩
theorem Bx.same6 {w w':World} {g B:Nat} {cs:Array Value} {T:TypeId} (h:Bx w g cs T)(hb:Below B w w')(hg:g<B):Bx w' g cs T:=(hb.block g hg).trans h
def ZrRel (l:List UInt8)(i:Value):Prop:=∃k:Nat,k≤l.length∧i= .int .i64 k∧∀j (h:j<l.length),j<k→l[j]=0
def FmRel (w0:World)(K:Nat)(v:Int)(rev fl:UInt8)(s0:InS)(vl:Value)(wr:World):Prop:=∃(fs:List Fr) (s:InS),fs.length≤4096∧LSt w0 wr K v rev fl fs vl s∧
 Zao v.toNat (ZG fl) 4096 s0=(fs++(Zao v.toNat (ZG fl) (4096 - fs.length) s).1,(Zao v.toNat (ZG fl) (4096 - fs.length) s).2)
theorem ZnV (K:Nat)(s0:InS)(v:Int)(rev fl:UInt8)(w:World)(h:InAt w K s0):
 Calls Tryz.prog 104 #[.agg (three v rev fl),.pointer (some ⟨K,0,none⟩)] w (ZfJ K w (Zcy v.toNat (ZG fl) s0)):=by
 generalize hP:ZfJ K w (Zcy v.toNat (ZG fl) s0)=P at*;have H:=Lib.hid h;have hKl:=h.lt;have hsp:=fun w=>Zhc v rev fl w;clear h;go_enter Tryz.func104,Tryz.ntmps104
 go_wp2_with fail
 go_loopw [5] (fun vl wr=>FmRel w K v rev fl s0 vl wr) (fun vl _=>4097 - lenV vl)
 case atStart=>exact⟨[],s0,by simp,⟨Bx.new w _ _,H.out.alloc _,⟨rfl,.inl ⟨rfl,rfl⟩⟩,fun _=>rfl,(But.refl _ _ _).alloc (Nat.le_refl _) _,hKl⟩,by simp⟩
 case round=>
  obtain⟨fs,s,hfs,hst,hlp⟩:=hrel;have ST:=Lib.hid hst;have HL:=Lib.hid hlp;obtain⟨hln,A0,c0,hvs,hc0⟩:=ZaL hst.own;have hln':=Lib.hid hln;clear hst hlp hln;subst hvs;have hpr:=fun w h=>ZnB K s v (ZG fl) w h;obtain⟨r,hr⟩:∃r,r=ZaM v.toNat s (ZG fl):=⟨_,rfl⟩
  rw [←hr] at hpr;have Hr:=Lib.hid hr;clear hr;obtain⟨⟨d0,d1,d2⟩,l1,l2⟩:=ST.out.cells;go_upto_region 2 with fail
  go_cut [6,7] (fun s6 s7 wx=>s7= .bool r.1.isSome∧∃F,s6= .pointer (some ⟨F,0,none⟩)∧RSt w wx K F v rev fl fs (.slice A0 fs.length c0) r.2 (r.1.getD ZdA))
  case first=>
   obtain⟨o,s'⟩:=r;have hpf:∀w,InAt w K s→Calls Tryz.prog 193 #[.int .i64 v,.pointer (some ⟨K,0,none⟩),.bool (ZG fl)] w fun e w'=>e= .returned (.tuple #[.agg #[.string (B (o.getD ZdA).id),.int .u8 (o.getD ZdA).st.toNat,.int .u8 (o.getD ZdA).fm.toNat,.int .u8 (o.getD ZdA).grp.toNat,.string (B (o.getD ZdA).body),.int .i64 (o.getD ZdA).at_],.bool o.isSome])∧InAt w' K s'∧But K w.heap.size w w':=by
    intro w h;refine(hpr w h).mono ?_;cases o with
    |none=>rintro e w2 ⟨h2,hb2,rfl⟩;exact⟨rfl,h2,hb2⟩
    |some f=>rintro e w2 ⟨h2,hb2,rfl⟩;exact⟨rfl,h2,hb2⟩
   have hob:∀k,(Value.slice A0 fs.length c0).ownBlock=some k→k<wr.heap.size:=fun k hk=>(ST.out.own.lt k hk).2;have Hob:=Lib.hid hob
   try simp only
   clear hpr hob;generalize o.isSome=ob at*;generalize o.getD ZdA=f at*;go_region_held3 (fun w'=>w'.cell? ⟨w.heap.size,0,none⟩=some (.int .i64 v)∧w'.cell? ⟨w.heap.size,1,none⟩=some (.int .u8 rev.toNat)∧w'.cell? ⟨w.heap.size,2,none⟩=some (.int .u8 fl.toNat))
    (first|with_reducible exact ST.out.drew.cells.1|with_reducible exact ST1.out.cells.1|with_reducible exact ST2.out.cells.1|with_reducible exact(ST.out.alloc _).drew.cells.1|with_reducible exact(ST1.out.alloc _).cells.1|with_reducible exact(ST2.out.alloc _).cells.1|with_reducible exact(ST2.out.six (by omega) (fun k hk=>by have:=Hob.out k hk;omega) _ _ _ _ _ _).cells.1)
    (first
     |(go_at_call 149;refine(hsp _).mono ?_;rintro e w1 ⟨rfl,hb1⟩;have ST1:Hid (LSt w w1 K v rev fl fs (.slice A0 fs.length c0) s):=Lib.hid (by first|exact(ST.out.drewN 1).below hb1|exact((ST.out.alloc (.cells #[.string ⟨#[]⟩,.int .u8 0,.int .u8 0,.int .u8 0,.string ⟨#[]⟩,.int .i64 0] 34)).drewN 1).below hb1);have hw1:wr.heap.size≤w1.heap.size:=(by have:=hb1.size;simp at this;omega))
     |(go_at_call 193;refine(hpf _ (by first|exact ST1.out.inn|exact(ST1.out.alloc _).inn)).mono ?_;rintro e w2 ⟨rfl,h2,hb2⟩;have ST2:Hid (LSt w w2 K v rev fl fs (.slice A0 fs.length c0) s'):=Lib.hid (by first|exact ST1.out.butK h2 hb2|exact(ST1.out.alloc _).butK h2 hb2);first|(have BX:Bx w2 wr.heap.size #[.string ⟨#[]⟩,.int .u8 0,.int .u8 0,.int .u8 0,.string ⟨#[]⟩,.int .i64 0] 34:=(Bx.below (w:=(wr.alloc (.cells #[.string ⟨#[]⟩,.int .u8 0,.int .u8 0,.int .u8 0,.string ⟨#[]⟩,.int .i64 0] 34)).drew) (Bx.new wr _ _) hb1).but hb2 (by omega);obtain⟨⟨x0,x1,x2,x3,x4,x5⟩,xf,xl⟩:=Zng (g:=wr.heap.size) BX;have BX':=Lib.hid BX;clear BX)|(have BX:Bx w2 w1.heap.size #[.string ⟨#[]⟩,.int .u8 0,.int .u8 0,.int .u8 0,.string ⟨#[]⟩,.int .i64 0] 34:=(Bx.new w1 _ _).but hb2 (by omega);obtain⟨⟨x0,x1,x2,x3,x4,x5⟩,xf,xl⟩:=Zng (g:=w1.heap.size) BX;have BX':=Lib.hid BX;clear BX)|skip))
   · go_wp2_with fail
     go_meet
     exact⟨rfl,_,rfl,ST2.out.alloc _,Bx.new w2 _ _⟩
   · go_wp2_with fail
     go_meet
     exact⟨rfl,_,rfl,ST2.out.six (by omega) (fun k hk=>by have:=Hob.out k hk;omega) _ _ _ _ _ _,BX'.out.zero6 _ _ _ _ _ _⟩
   · go_wp2_with fail
     go_meet
     exact⟨rfl,_,rfl,ST2.out.six (by omega) (fun k hk=>by have:=Hob.out k hk;omega) _ _ _ _ _ _,BX'.out.zero6 _ _ _ _ _ _⟩
  case rest=>
   obtain⟨rfl,F,rfl,hRS⟩:=hcut;have SR:=Lib.hid hRS;clear hRS d0 d1 d2 l1 l2;obtain⟨⟨d0,d1,d2⟩,l1,l2⟩:=SR.out.st.cells;obtain⟨o,sX⟩:=r;cases o with
   |none=>
    have hX:Zao v.toNat (ZG fl) 4096 s0=(fs,sX):=by
     rw [HL.out];have:Zao v.toNat (ZG fl) (4096 - fs.length) s=([],sX):=by
      cases(4096 - fs.length)<;>(unfold Zao;rw [←Hr.out])
     rw [this,List.append_nil]
    have HX:=Lib.hid hX;have STX:Hid (LSt w wc K v rev fl fs (.slice A0 fs.length c0) sX):=Lib.hid SR.out.st;clear hX;go_wp2_with fail
    have hat:=fun w h=>Zb0 K sX w h;have hrs:=fun w h=>Zec K sX w h;unfold Zf at hrs;obtain⟨q,hq⟩:∃q,q=sX.rest:=⟨_,rfl⟩
    rw [←hq] at hrs;have hfr:Zcy v.toNat (ZG fl) s0=match ZbE q.1 with|none=>(fs,q.2)|some i=>(fs,q.2.fail 1 (sX.at_+i)):=by
     unfold Zcy;rw [HX.out,hq];rfl
    have Hfr:=Lib.hid hfr;have hql:q.1.length≤1000000000:=by rw [hq];exact Zip sX STX.out.inn.len
    have hbase:=STX.out.inn.base;have hatl:sX.at_≤2000000000:=by
     have h2:=STX.out.inn.fits;have h4:=STX.out.inn.len;rw [InS.at_,Zdp sX sX.n hbase (by omega)];omega
    have hszq:=Zl q.1;clear hfr hq;generalize sX.at_=atX at*;go_wp2_with (first
     |(go_at_call 55;refine(hat _ STX.out.inn).mono ?_;rintro e w8 ⟨rfl,rfl⟩)
     |(go_at_call 60;refine(hrs _ STX.out.inn).mono ?_;rintro e w9 ⟨rfl,h9,hb9⟩;have STY:=Lib.hid (STX.out.butK h9 hb9);clear h9 hb9))
    go_loop [39] (fun i=>ZrRel q.1 i) (fun i=>q.1.length - (intOf i).toNat)
    case atStart=>exact⟨0,Nat.zero_le _,rfl,fun j _ h=>by omega⟩
    case round=>
     obtain⟨k,hk,rfl,hz⟩:=hrel;have Hz:=Lib.hid hz;clear hz;by_cases hlt:k<q.1.length
     · have hg:=Zbc q.1 k hlt;by_cases hx:q.1[k]=0
       · have hx0:((q.1[k].toNat:Int) !=0)=false:=by rw [hx];rfl
         have Hx:=Lib.hid hx;clear hx;go_wp2_with fail
         go_round
         case rel=>
          refine⟨k+1,by omega,by go_num,fun j hj hjk=> ?_⟩;by_cases e:j=k
          · subst e;exact Hx.out
          · exact Hz.out j hj (by omega)
         case measure=>simp [intOf];omega
       · have hx0:((q.1[k].toNat:Int) !=0)=true:=by rw [Zdk];simpa using hx
         have hnz:ZbE q.1=some k:=by
          rw [Zfj q.1 k (by omega) Hz.out,List.drop_eq_getElem_cons hlt,ZbE,if_neg hx];simp
         have hf:=fun w h=>Za5 K q.2 1 ((atX:Int)+k) (by decide) (by omega) w h;have hR:=Hfr.out;rw [hnz] at hR;simp only at hR;rw [show(1:Int).toNat=1 from rfl,show((atX:Int)+k).toNat=atX+k by omega] at hf;unfold Zf at hf;have HR2:=Lib.hid hR;clear hR hnz hx;go_wp2_with (go_at_call 110;refine(hf _ STY.out.inn).mono ?_;rintro e w10 ⟨rfl,h10,hb10⟩;have STZ:=Lib.hid (STY.out.butK h10 hb10);clear h10 hb10)
         show P (.returned (.slice A0 fs.length c0)) _
         rw [←hP,HR2.out];exact⟨_,rfl,(Zi.of_own rfl STZ.out.own STZ.out.nil_).low (by omega),STZ.out.inn,STZ.out.but⟩
     · have hk2:k=q.1.length:=by omega
       subst hk2;have hnz:ZbE q.1=none:=by
        rw [Zfj q.1 _ (Nat.le_refl _) Hz.out,List.drop_length];rfl
       have hR:=Hfr.out;rw [hnz] at hR;simp only at hR;have HR2:=Lib.hid hR;clear hR hnz;go_wp2_with fail
       show P (.returned (.slice A0 fs.length c0)) _
       rw [←hP,HR2.out];exact⟨_,rfl,(Zi.of_own rfl STY.out.own STY.out.nil_).low (by omega),STY.out.inn,STY.out.but⟩
   |some f=>
    have hfr6:=SR.out.frame.get;simp only [Option.getD_some] at hfr6;obtain⟨y0,y1,y2,y3,y4,y5⟩:=hfr6;by_cases h4:fs.length=4096
    · have hge:=Zst Hr.out.symm;have hf:=fun w h=>Za5 K sX 4 f.at_ (by decide) (by omega) w h;rw [show(4:Int).toNat=4 from rfl] at hf;have hX:Zao v.toNat (ZG fl) 4096 s0=(fs,sX.fail 4 f.at_.toNat):=by
       rw [HL.out,h4];show(fs++(Zao v.toNat (ZG fl) 0 s).1,_)=_
       have:Zao v.toNat (ZG fl) (4096 - 4096) s=([],sX.fail 4 f.at_.toNat):=by
        show Zao v.toNat (ZG fl) 0 s=_
        unfold Zao;rw [←Hr.out]
       rw [show(4096 - 4096)=0 from rfl] at this;rw [this,List.append_nil]
      unfold Zf at hf;obtain⟨sY,hsY⟩:∃sY,sY=sX.fail 4 f.at_.toNat:=⟨_,rfl⟩
      rw [←hsY] at hf hX;have HX:=Lib.hid hX;have hc4:((fs.length:Int)==4096)=true:=by rw [h4];rfl
      clear hX hsY h4;go_upto_region 7 with(go_at_call 110;refine(hf _ SR.out.st.inn).mono ?_;rintro e w4 ⟨rfl,h4,hb4⟩;have STX:=Lib.hid (SR.out.st.butK h4 hb4);clear h4 hb4)
      have hat:=fun w h=>Zb0 K sY w h;have hrs:=fun w h=>Zec K sY w h;unfold Zf at hrs;obtain⟨q,hq⟩:∃q,q=sY.rest:=⟨_,rfl⟩
      rw [←hq] at hrs;have hfr:Zcy v.toNat (ZG fl) s0=match ZbE q.1 with|none=>(fs,q.2)|some i=>(fs,q.2.fail 1 (sY.at_+i)):=by
       unfold Zcy;rw [HX.out,hq];rfl
      have Hfr:=Lib.hid hfr;have hql:q.1.length≤1000000000:=by rw [hq];exact Zip sY STX.out.inn.len
      have hbase:=STX.out.inn.base;have hatl:sY.at_≤2000000000:=by
       have h2:=STX.out.inn.fits;have h4:=STX.out.inn.len;rw [InS.at_,Zdp sY sY.n hbase (by omega)];omega
      have hszq:=Zl q.1;clear hfr hq;generalize sY.at_=atX at*;go_wp2_with (first
       |(go_at_call 55;refine(hat _ STX.out.inn).mono ?_;rintro e w8 ⟨rfl,rfl⟩)
       |(go_at_call 60;refine(hrs _ STX.out.inn).mono ?_;rintro e w9 ⟨rfl,h9,hb9⟩;have STY:=Lib.hid (STX.out.butK h9 hb9);clear h9 hb9))
      go_loop [39] (fun i=>ZrRel q.1 i) (fun i=>q.1.length - (intOf i).toNat)
      case atStart=>exact⟨0,Nat.zero_le _,rfl,fun j _ h=>by omega⟩
      case round=>
       obtain⟨k,hk,rfl,hz⟩:=hrel;have Hz:=Lib.hid hz;clear hz;by_cases hlt:k<q.1.length
       · have hg:=Zbc q.1 k hlt;by_cases hx:q.1[k]=0
         · have hx0:((q.1[k].toNat:Int) !=0)=false:=by rw [hx];rfl
           have Hx:=Lib.hid hx;clear hx;go_wp2_with fail
           go_round
           case rel=>
            refine⟨k+1,by omega,by go_num,fun j hj hjk=> ?_⟩;by_cases e:j=k
            · subst e;exact Hx.out
            · exact Hz.out j hj (by omega)
           case measure=>simp [intOf];omega
         · have hx0:((q.1[k].toNat:Int) !=0)=true:=by rw [Zdk];simpa using hx
           have hnz:ZbE q.1=some k:=by
            rw [Zfj q.1 k (by omega) Hz.out,List.drop_eq_getElem_cons hlt,ZbE,if_neg hx];simp
           have hf:=fun w h=>Za5 K q.2 1 ((atX:Int)+k) (by decide) (by omega) w h;have hR:=Hfr.out;rw [hnz] at hR;simp only at hR;rw [show(1:Int).toNat=1 from rfl,show((atX:Int)+k).toNat=atX+k by omega] at hf;unfold Zf at hf;have HR2:=Lib.hid hR;clear hR hnz hx;go_wp2_with (go_at_call 110;refine(hf _ STY.out.inn).mono ?_;rintro e w10 ⟨rfl,h10,hb10⟩;have STZ:=Lib.hid (STY.out.butK h10 hb10);clear h10 hb10)
           show P (.returned (.slice A0 fs.length c0)) _
           rw [←hP,HR2.out];exact⟨_,rfl,(Zi.of_own rfl STZ.out.own STZ.out.nil_).low (by omega),STZ.out.inn,STZ.out.but⟩
       · have hk2:k=q.1.length:=by omega
         subst hk2;have hnz:ZbE q.1=none:=by
          rw [Zfj q.1 _ (Nat.le_refl _) Hz.out,List.drop_length];rfl
         have hR:=Hfr.out;rw [hnz] at hR;simp only at hR;have HR2:=Lib.hid hR;clear hR hnz;go_wp2_with fail
         show P (.returned (.slice A0 fs.length c0)) _
         rw [←hP,HR2.out];exact⟨_,rfl,(Zi.of_own rfl STY.out.own STY.out.nil_).low (by omega),STY.out.inn,STY.out.but⟩
    · have hc4:((fs.length:Int)==4096)=false:=by rw [beq_eq_false_iff_ne];omega
      have hX:Zao v.toNat (ZG fl) 4096 s0=((fs++[f])++(Zao v.toNat (ZG fl) (4096 - (fs++[f]).length) sX).1,(Zao v.toNat (ZG fl) (4096 - (fs++[f]).length) sX).2):=by
       rw [HL.out];obtain⟨n,hn⟩:∃n,4096 - fs.length=n+1:=⟨4096 - fs.length - 1,by omega⟩
       have h1:Zao v.toNat (ZG fl) (4096 - fs.length) s=(f::(Zao v.toNat (ZG fl) n sX).1,(Zao v.toNat (ZG fl) n sX).2):=by
        rw [hn];conv=>lhs;unfold Zao;rw [←Hr.out]
       have h2:4096 - (fs++[f]).length=n:=by simp;omega
       rw [h1,h2];simp
      have HX:=Lib.hid hX;clear hX;go_wp2_with (at_builtin;refine ZjW rfl _ _ rfl (w.heap.size+1) (.slice A0 fs.length c0) fs rfl wc f SR.out.st.own (by omega) (by omega) rfl ?_;intro v6 w6 HO6 hb6;have STX:Hid (LSt w w6 K v rev fl (fs++[f]) v6 sX):=Lib.hid ⟨SR.out.st.hd.same6 hb6 (by omega),SR.out.st.inn.same (hb6.block _ (by omega)),HO6.out,fun h=>by simp at h,SR.out.st.but.trans (.of (hb6.mono (by omega))),hKl⟩;clear hb6)
      have hl6:=(ZaL STX.out.own).1;go_roundw
      case rel=>exact⟨fs++[f],sX,by simp;omega,STX.out,HX.out⟩
      case measure=>rw [hl6];simp [lenV];omega
end Go.Proofs.YtecandjkbbpooaaGreatDoor
