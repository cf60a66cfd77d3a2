/- Lemmas for TopVersions; conditions: as each says. -/
import Derived.Deep.RegionHeld3
import Derived.Test.YtlhllehffkoloaaGreatDoorM13
set_option linter.unusedVariables false
set_option linter.unusedSimpArgs false
set_option maxRecDepth 100000
set_option maxHeartbeats 4000000
namespace Go.Proofs.YtlhllehffkoloaaGreatDoor
open Go Go.RowKit
def three (v:Int)(rev fl:UInt8):Array Value:=#[.int .i64 v,.int .u8 rev.toNat,.int .u8 fl.toNat]
def Zkg (K:Nat)(w:World)(r:(Nat×UInt8×UInt8)×InS)(e:Ending)(w':World):Prop:=
 e= .returned (.agg (three r.1.1 r.1.2.1 r.1.2.2))∧InAt w' K r.2∧But K w.heap.size w w'
structure HSt (w0 wx:World)(K R T:Nat)(v:Int)(rev fl:UInt8)(s:InS):Prop where
 hd:Bx wx T (three v rev fl) 27
 inn:InAt wx K s
 res:Bx wx R (three 0 0 0) 27
 but:But K w0.heap.size w0 wx
 hK:K<w0.heap.size
 hR:R=w0.heap.size
 hT:R<T
section
variable {w0 w w':World} {T R K:Nat} {v:Int} {rev fl:UInt8} {s s':InS}
theorem HSt.below (h:HSt w0 w K R T v rev fl s)(hb:Below w.heap.size w w'):HSt w0 w' K R T v rev fl s:=
 ⟨h.hd.below hb,h.inn.below hb,h.res.below hb,h.but.trans (.of (hb.mono h.but.size)),h.hK,h.hR,h.hT⟩
theorem HSt.butK (h:HSt w0 w K R T v rev fl s)(hi:InAt w' K s')(hb:But K w.heap.size w w'):HSt w0 w' K R T v rev fl s':=
 ⟨h.hd.but hb (by have:=h.hT;have:=h.hR;have:=h.hK;omega),hi,h.res.but hb (by have:=h.hK;have:=h.hR;omega),h.but.trans (hb.mono h.but.size),h.hK,h.hR,h.hT⟩
theorem HSt.drewN (h:HSt w0 w K R T v rev fl s)(n:Nat):HSt w0 (w.drewN n) K R T v rev fl s:=
 h.below (below_drewN (Below.refl _ _) n)
theorem HSt.cells (h:HSt w0 w K R T v rev fl s):(w.cell? ⟨T,0,none⟩=some (.int .i64 v)∧w.cell? ⟨T,1,none⟩=some (.int .u8 rev.toNat)∧w.cell? ⟨T,2,none⟩=some (.int .u8 fl.toNat))∧
 (w.cell? ⟨R,0,none⟩=some (.int .i64 0)∧w.cell? ⟨R,1,none⟩=some (.int .u8 0)∧w.cell? ⟨R,2,none⟩=some (.int .u8 0))∧(∀j,w.frozen? ⟨R,j,none⟩=false)∧T<w.heap.size∧R<w.heap.size:=
 ⟨⟨h.hd.cell 0,h.hd.cell 1,h.hd.cell 2⟩,⟨h.res.cell 0,h.res.cell 1,h.res.cell 2⟩,h.res.free,h.hd.lt,h.res.lt⟩
end
theorem Bx.three {w:World} {g:Nat} {T:TypeId} {x0 x1 x2:Value} (h:Bx w g #[x0,x1,x2] T)(a b c:Value):Bx (((w.setCell ⟨g,0,none⟩ a).setCell ⟨g,1,none⟩ b).setCell ⟨g,2,none⟩ c) g #[a,b,c] T:=by
 have h0:Bx (w.setCell ⟨g,0,none⟩ a) g #[a,x1,x2] T:=h.put 0 a;have h1:Bx _ g #[a,b,x2] T:=h0.put 1 b;exact h1.put 2 c
theorem ZpA (K:Nat)(s:InS)(w:World)(h:InAt w K s):
 Calls Tryz.prog 81 #[.pointer (some ⟨K,0,none⟩)] w (Zkg K w (Zcr s)):=by
 obtain⟨q,hq⟩:∃q,q=(s.want ZT).2:=⟨_,rfl⟩
 obtain⟨a,ha⟩:∃a,a=q.big 1:=⟨_,rfl⟩
 obtain⟨b,hb⟩:∃b,b=a.2.big 1:=⟨_,rfl⟩
 obtain⟨c,hc⟩:∃c,c=b.2.big 1:=⟨_,rfl⟩
 obtain⟨v,hv⟩:∃v:Nat,v=a.1:=⟨_,rfl⟩
 obtain⟨rev,hrev⟩:∃rev:UInt8,rev=UInt8.ofNat b.1:=⟨_,rfl⟩
 obtain⟨fl,hfl⟩:∃fl:UInt8,fl=UInt8.ofNat c.1:=⟨_,rfl⟩
 obtain⟨s1,hs1⟩:∃s1,s1=if ZA v=0 then c.2.fail 3 3 else c.2:=⟨_,rfl⟩
 obtain⟨s2,hs2⟩:∃s2,s2=if rev=255 then s1.fail 1 4 else s1:=⟨_,rfl⟩
 obtain⟨s3,hs3⟩:∃s3,s3=if fl&&& ~~~(Zbl v)≠0 then s2.fail 1 5 else s2:=⟨_,rfl⟩
 obtain⟨s4,hs4⟩:∃s4,s4=if v=2∧fl&&&0x40≠0 then s3.fail 3 5 else s3:=⟨_,rfl⟩
 have hR:Zcr s=if c.2.e≠0 then((0,0,0),c.2) else((v,rev,fl),s4):=by
  subst hs4 hs3 hs2 hs1 hfl hrev hv hc hb ha hq;rfl
 generalize hP:Zkg K w (Zcr s)=P at*;have hal:=ZcF q 1 (by omega);have hbl:=ZcF a.2 1 (by omega);have hcl:=ZcF b.2 1 (by omega);rw [←ha] at hal;rw [←hb] at hbl;rw [←hc] at hcl;have e1:(256:Nat)^1=256:=by decide
 rw [e1] at hal hbl hcl;have hwn:=fun w h=>ZhW K s ZT (by decide) w h;rw [←hq] at hwn;have hba:=fun w h=>ZcZ K q 1 (by omega) w h;have hbb:=fun w h=>ZcZ K a.2 1 (by omega) w h;have hbc:=fun w h=>ZcZ K b.2 1 (by omega) w h;rw [←ha] at hba;rw [←hb] at hbb;rw [←hc] at hbc;unfold Zh at hwn hba hbb hbc;rw [←hv] at hba;have hvl:v<256:=by omega
 have hrn:b.1=rev.toNat:=by have:=Zi2 b.1 hbl;rw [←hrev] at this;omega
 have hfn:c.1=fl.toNat:=by have:=Zi2 c.1 hcl;rw [←hfl] at this;omega
 rw [hrn] at hbb;rw [hfn] at hbc;have hrl:=rev.toNat_lt;have hfl2:=fl.toNat_lt;have Hs1:=Lib.hid hs1;have Hs2:=Lib.hid hs2;have Hs3:=Lib.hid hs3;have Hs4:=Lib.hid hs4;have HR:=Lib.hid hR;have hfa:=fun w h=>Zcz K c.2 w h;have H:=Lib.hid h;have hKl:=h.lt;clear h hq ha hb hc hv hrev hfl hs1 hs2 hs3 hs4 hR e1 hal hrn hfn hbl hcl;go_enter Tryz.func81,Tryz.ntmps81
 go_upto_region 3 with(first
  |(go_at_call 66;refine(hwn _ (H.out.alloc _)).mono ?_;rintro e w1 ⟨rfl,h1,hb1⟩;have H1:=Lib.hid h1;have B1:=Lib.hid (Zh6 hb1);have R1:=Lib.hid ((Bx.new w _ _).but hb1 (by omega));have hz1:=hb1.size;simp only [World.size_alloc] at hz1;clear h1 hb1)
  |(go_at_call 71;refine(hba _ H1.out).mono ?_;rintro e w2 ⟨rfl,h2,hb2⟩;have H2:=Lib.hid h2;have B2:=Lib.hid (B1.out.trans (hb2.mono B1.out.size));have R2:=Lib.hid (R1.out.but hb2 (by omega));have hz2:=hb2.size;clear h2 hb2)
  |(go_at_call 71;refine(hbb _ H2.out).mono ?_;rintro e w3 ⟨rfl,h3,hb3⟩;have H3:=Lib.hid h3;have B3:=Lib.hid (B2.out.trans (hb3.mono B2.out.size));have R3:=Lib.hid (R2.out.but hb3 (by omega));have hz3:=hb3.size;clear h3 hb3)
  |(go_at_call 71;refine(hbc _ H3.out).mono ?_;rintro e w4 ⟨rfl,h4,hb4⟩;have H4:=Lib.hid h4;have B4:=Lib.hid (B3.out.trans (hb4.mono B3.out.size));have R4:=Lib.hid (R3.out.but hb4 (by omega));have hz4:=hb4.size;clear h4 hb4))
 have ST:Hid (HSt w (w4.alloc (.cells (three v rev fl) 27)) K w.heap.size w4.heap.size v rev fl c.2):=Lib.hid ⟨Bx.new w4 _ _,H4.out.alloc _,R4.out.alloc _,B4.out.alloc B4.out.size _,hKl,rfl,by omega⟩;obtain⟨⟨d0,d1,d2⟩,⟨r0,r1,r2⟩,f0,l1,l2⟩:=ST.out.cells;have hd0:=Lib.hid d0;by_cases hE:c.2.e=0
 · have hRR:=HR.out;rw [if_neg (by simpa using hE)] at hRR;have HRR:=Lib.hid hRR;have hbd:=fun w=>Z0 (c.2.e:Int) c.2.a (by omega) w;clear hRR hE;have hlt:=fun w=>Zfj (v:Int) w;rw [Int.toNat_natCast] at hlt;have hal:=fun w=>Zj3 (v:Int) w;rw [Int.toNat_natCast] at hal;obtain⟨x8,hx8⟩:∃x8,x8=fl&&& ~~~(Zbl v):=⟨_,rfl⟩
   have han:=Zgr fl (Zbl v).toNat (Zbl v) rfl;rw [←hx8] at han;have h3:=Hs3.out;rw [←hx8] at h3;have Hs3':=Lib.hid h3;clear h3 hx8 Hs3;generalize Zbl v=al8 at*
   go_upto_if 23 with(first
    |(go_at_call 68;refine(hfa _ ST.out.inn).mono ?_;rintro e w5 ⟨rfl,hb5⟩;have ST2:=Lib.hid (ST.out.below hb5);clear hb5)
    |(go_at_call 11;refine(hbd _).mono ?_;rintro e w6 ⟨rfl,hb6⟩;have ST3:=Lib.hid (ST2.out.below hb6);clear hb6 d0 d1 d2 r0 r1 r2 f0 l1 l2;obtain⟨⟨d0,d1,d2⟩,⟨r0,r1,r2⟩,f0,l1,l2⟩:=ST3.out.cells)
    |(go_at_call 37;refine(hlt _).mono ?_;rintro e w7 ⟨rfl,rfl⟩))
   go_cut [] (fun wx=>HSt w wx K w.heap.size w4.heap.size v rev fl s1)
   case first=>
    by_cases h0:ZA v=0
    · have hv:((ZA v:Int)==0)=true:=by rw [h0];rfl
      have hq:=Hs1.out;rw [if_pos h0] at hq;have hf:=fun w h=>Za7 K c.2 3 3 (by decide) (by decide) w h;rw [show(3:Int).toNat=3 from rfl,←hq] at hf;unfold Zh at hf;clear hq h0;go_wp2_with (go_at_call 124;refine(hf _ ST3.out.inn).mono ?_;rintro e w8 ⟨rfl,h8,hb8⟩)
      go_meet
      exact ST3.out.butK h8 hb8
    · have hv:((ZA v:Int)==0)=false:=by rw [beq_eq_false_iff_ne];omega
      have hq:=Hs1.out;rw [if_neg h0] at hq;have Hq:=Lib.hid hq;clear hq h0;go_wp2_with fail
      go_meet
      rw [Hq.out];exact ST3.out
   have ST4:=Lib.hid hcut;clear hcut d0 d1 d2 r0 r1 r2 f0 l1 l2;obtain⟨⟨d0,d1,d2⟩,⟨r0,r1,r2⟩,f0,l1,l2⟩:=ST4.out.cells
   go_upto_if 28 with fail
   go_cut [] (fun wx=>HSt w wx K w.heap.size w4.heap.size v rev fl s2)
   case first=>
    by_cases h0:rev=255
    · have hv:((rev.toNat:Int)==255)=true:=by rw [h0];rfl
      have hq:=Hs2.out;rw [if_pos h0] at hq;have hf:=fun w h=>Za7 K s1 1 4 (by decide) (by decide) w h;rw [show(1:Int).toNat=1 from rfl,show(4:Int).toNat=4 from rfl,←hq] at hf;unfold Zh at hf;clear hq h0;go_wp2_with (go_at_call 124;refine(hf _ ST4.out.inn).mono ?_;rintro e w8 ⟨rfl,h8,hb8⟩)
      go_meet
      exact ST4.out.butK h8 hb8
    · have hv:((rev.toNat:Int)==255)=false:=by rw [beq_eq_false_iff_ne];exact fun e=>h0 (UInt8.toNat_inj.1 (by show rev.toNat=255;omega))
      have hq:=Hs2.out;rw [if_neg h0] at hq;have Hq:=Lib.hid hq;clear hq h0;go_wp2_with fail
      go_meet
      rw [Hq.out];exact ST4.out
   have ST5:=Lib.hid hcut;clear hcut d0 d1 d2 r0 r1 r2 f0 l1 l2;obtain⟨⟨d0,d1,d2⟩,⟨r0,r1,r2⟩,f0,l1,l2⟩:=ST5.out.cells;go_wp2_with fail
   go_quiet ((go_at_call 36;exact Calls.quiet_of_same ((hal _).mono fun _ _ ⟨a,b⟩=>⟨a,b.symm⟩)))
   have ST6:=Lib.hid (ST5.out.drewN nq)
   go_upto_if 37 with fail
   go_cut [] (fun wx=>HSt w wx K w.heap.size w4.heap.size v rev fl s3)
   case first=>
    by_cases h0:x8=0
    · have hv:((x8.toNat:Int) !=0)=false:=by rw [h0];rfl
      have hq:=Hs3'.out;rw [if_neg (by simpa using h0)] at hq;have Hq:=Lib.hid hq;clear hq h0;go_wp2_with fail
      go_meet
      rw [Hq.out];exact ST6.out
    · have hv:((x8.toNat:Int) !=0)=true:=by rw [Zdz];simpa using h0
      have hq:=Hs3'.out;rw [if_pos h0] at hq;have hf:=fun w h=>Za7 K s2 1 5 (by decide) (by decide) w h;rw [show(1:Int).toNat=1 from rfl,show(5:Int).toNat=5 from rfl,←hq] at hf;unfold Zh at hf;clear hq h0;go_wp2_with (go_at_call 124;refine(hf _ ST6.out.inn).mono ?_;rintro e w8 ⟨rfl,h8,hb8⟩)
      go_meet
      exact ST6.out.butK h8 hb8
   have ST7:=Lib.hid hcut;clear hcut d0 d1 d2 r0 r1 r2 f0 l1 l2;obtain⟨⟨d0,d1,d2⟩,⟨r0,r1,r2⟩,f0,l1,l2⟩:=ST7.out.cells;go_upto_region 11 with fail
   go_cut [48] (fun s48 wx=>s48= .bool (decide (v=2)&&(fl&&&64 !=0))∧HSt w wx K w.heap.size w4.heap.size v rev fl s3)
   case first=>
    have hb:=Zcj fl 64 64 rfl;have HN:=Lib.hid (Zdd fl 64 64 rfl);by_cases h2:v=2
    · subst h2;go_wp2_with fail
      go_meet
      exact⟨by rw [←HN.out];rfl,ST7.out⟩
    · have hv:((v:Int)==2)=false:=by rw [beq_eq_false_iff_ne];omega
      have Hd:Hid (decide (v=2)=false):=Lib.hid (by simpa using h2);clear h2;go_wp2_with fail
      go_meet
      exact⟨by rw [Hd.out];rfl,ST7.out⟩
   obtain⟨rfl,hcut⟩:=hcut;have ST8:=Lib.hid hcut;clear hcut d0 d1 d2 r0 r1 r2 f0 l1 l2;obtain⟨⟨d0,d1,d2⟩,⟨r0,r1,r2⟩,f0,l1,l2⟩:=ST8.out.cells
   go_upto_if 48 with fail
   go_cut [] (fun wx=>HSt w wx K w.heap.size w4.heap.size v rev fl s4)
   case first=>
    cases hbb:(decide (v=2)&&(fl&&&64 !=0)) with
    |true=>
     have hq:=Hs4.out;rw [Bool.and_eq_true,decide_eq_true_eq] at hbb;rw [if_pos ⟨hbb.1,by simpa using hbb.2⟩] at hq;have hf:=fun w h=>Za7 K s3 3 5 (by decide) (by decide) w h;rw [show(3:Int).toNat=3 from rfl,show(5:Int).toNat=5 from rfl,←hq] at hf;unfold Zh at hf;clear hq hbb;go_wp2_with (go_at_call 124;refine(hf _ ST8.out.inn).mono ?_;rintro e w8 ⟨rfl,h8,hb8⟩)
     go_meet
     exact ST8.out.butK h8 hb8
    |false=>
     have hq:=Hs4.out;rw [if_neg (by
      rintro⟨h1,h2⟩;rw [h1] at hbb;simp at hbb;exact h2 hbb)] at hq
     have Hq:=Lib.hid hq;clear hq hbb;go_wp2_with fail
     go_meet
     rw [Hq.out];exact ST8.out
   have ST9:=Lib.hid hcut;clear hcut d0 d1 d2 r0 r1 r2 f0 l1 l2;obtain⟨⟨d0,d1,d2⟩,⟨r0,r1,r2⟩,f0,l1,l2⟩:=ST9.out.cells;go_wp2_with fail
   have hr:=ST9.out.res.three (.int .i64 v) (.int .u8 rev.toNat) (.int .u8 fl.toNat);refine bodyPost_ret (results_cell_row rfl _ _ w.heap.size _ _ _ _ rfl hr Tryz.underlying27 rfl (by kernel_rfl)) rfl ?_;rw [←hP,HRR.out];exact⟨rfl,((ST9.out.inn.set (by omega) _ _).set (by omega) _ _).set (by omega) _ _,((ST9.out.but.setCell (p:=⟨w.heap.size,0,none⟩) (.inl (Nat.le_refl _)) _).setCell (p:=⟨w.heap.size,1,none⟩) (.inl (Nat.le_refl _)) _).setCell (p:=⟨w.heap.size,2,none⟩) (.inl (Nat.le_refl _)) _⟩
 · have hRR:=HR.out;rw [if_pos hE] at hRR;have HRR:=Lib.hid hRR;have hbd:=fun w=>ZaY (c.2.e:Int) c.2.a (by omega) w;clear hRR hE;go_wp2_with (first
    |(go_at_call 68;refine(hfa _ ST.out.inn).mono ?_;rintro e w5 ⟨rfl,hb5⟩;have ST2:=Lib.hid (ST.out.below hb5);clear hb5)
    |(go_at_call 11;refine(hbd _).mono ?_;rintro e w6 ⟨rfl,hb6⟩;have ST3:=Lib.hid (ST2.out.below hb6);clear hb6 d0 d1 d2 r0 r1 r2 f0 l1 l2;obtain⟨⟨d0,d1,d2⟩,⟨r0,r1,r2⟩,f0,l1,l2⟩:=ST3.out.cells))
   have hr:=ST3.out.res.three (.int .i64 0) (.int .u8 0) (.int .u8 0);refine bodyPost_ret (results_cell_row rfl _ _ w.heap.size _ _ _ _ rfl hr Tryz.underlying27 rfl (by kernel_rfl)) rfl ?_;rw [←hP,HRR.out];exact⟨rfl,((ST3.out.inn.set (by omega) _ _).set (by omega) _ _).set (by omega) _ _,((ST3.out.but.setCell (p:=⟨w.heap.size,0,none⟩) (.inl (Nat.le_refl _)) _).setCell (p:=⟨w.heap.size,1,none⟩) (.inl (Nat.le_refl _)) _).setCell (p:=⟨w.heap.size,2,none⟩) (.inl (Nat.le_refl _)) _⟩
def Zg {α:Type} (f:α→List Value)(B:Nat)(w:World)(v:Value)(l:List α):Prop:=
 (l=[]∧v= .slice none 0 0)∨∃bk c:Nat,l≠[]∧v= .slice (some ⟨bk,0,none⟩) l.length c∧l.length≤c∧B≤bk∧bk<w.heap.size∧∀j u,(l.flatMap f)[j]? =some u→w.cell? ⟨bk,j,none⟩=some u
section
variable {α:Type} {m:Nat} {f:α→List Value} {B:Nat} {w w':World} {v:Value} {l:List α}
theorem Zg.below (h:Zg f B w v l)(hb:Below w.heap.size w w'):Zg f B w' v l:=by
 rcases h with h|⟨bk,c,h0,h1,h2,h5,h3,h4⟩
 · exact .inl h
 · exact .inr ⟨bk,c,h0,h1,h2,h5,Nat.lt_of_lt_of_le h3 hb.size,fun j u hu=>(hb.cell (p:=⟨bk,j,none⟩) h3).trans (h4 j u hu)⟩
theorem Zg.but {C:Nat} (h:Zg f B w v l)(hb:But C w.heap.size w w')(hC:C<B):Zg f B w' v l:=by
 rcases h with h|⟨bk,c,h0,h1,h2,h5,h3,h4⟩
 · exact .inl h
 · exact .inr ⟨bk,c,h0,h1,h2,h5,Nat.lt_of_lt_of_le h3 hb.size,fun j u hu=>(hb.cell (p:=⟨bk,j,none⟩) h3 (by show bk≠C;omega)).trans (h4 j u hu)⟩
theorem Zg.low {B':Nat} (h:Zg f B w v l)(hB:B'≤B):Zg f B' w v l:=by
 rcases h with h|⟨bk,c,h0,h1,h2,h5,h3,h4⟩
 · exact .inl h
 · exact .inr ⟨bk,c,h0,h1,h2,by omega,h3,h4⟩
theorem Zg.len (h:Zg f B w v l):∃A c,v= .slice A l.length c∧l.length≤c:=by
 rcases h with⟨h,h1⟩|⟨bk,c,h0,h1,h2,_⟩
 · subst h;exact⟨none,0,h1,Nat.le_refl _⟩
 · exact⟨_,c,h1,h2⟩
theorem Zg.of_own {base:Nat} {e:TypeId} {n:Nat} (hn:n=l.length)(h:w.ownsRow base e m v n (l.flatMap f))(h0:l=[]→v= .slice none 0 0):Zg f base w v l:=by
 by_cases hl:l=[]
 · exact .inl ⟨hl,h0 hl⟩
 · right
   rcases h.2 with⟨_,h1⟩|⟨g,cap,cur,rfl,hb,hg,hnc,hcm,hcs,htake⟩
   · rw [hn] at h1;exact absurd (List.length_eq_zero_iff.1 h1) hl
   · subst hn;refine⟨g,cap,hl,rfl,hnc,hb,(Array.getElem?_eq_some_iff.1 hg).1,fun j u hu=> ?_⟩;have:=h.cells (g:=g) rfl j u hu;have hadd:(⟨g,0,none⟩:Addr).add j=⟨g,j,none⟩:=by unfold Addr.add;split<;>simp_all
     rw [hadd] at this;exact this
end
theorem ZgE {α:Type} (m:Nat)(f:α→List Value)(hf:∀x,(f x).length=m):∀(l:List α) (k j:Nat) (x:α),l[k]? =some x→j<m→(l.flatMap f)[k*m+j]? =(f x)[j]?
 |y::l,0,j,x,h,hj=>by
  simp only [List.getElem?_cons_zero,Option.some.injEq] at h;subst h;rw [List.flatMap_cons,List.getElem?_append_left (by rw [hf];omega)];congr 1
  omega
 |y::l,k+1,j,x,h,hj=>by
  rw [List.getElem?_cons_succ] at h;rw [List.flatMap_cons,List.getElem?_append_right (by rw [hf,Nat.succ_mul];omega),hf,←ZgE m f hf l k j x h hj];congr 1
  rw [Nat.succ_mul];omega
theorem ZfP (w:World)(cs:List Value)(T:TypeId):∀j u,cs[j]? =some u→(w.alloc (.cells cs.toArray T)).cell? ((⟨w.heap.size,0,none⟩:Addr).add j)=some u:=by
 intro j u hu;have hadd:(⟨w.heap.size,0,none⟩:Addr).add j=⟨w.heap.size,j,none⟩:=by unfold Addr.add;split<;>simp_all
 rw [hadd,cell_of_row _ w.heap.size j _ T (0,0) (heap_alloc_new w _)];simpa using hu
def frV (f:Fr):List Value:=[.string (B f.id),.int .u8 f.st.toNat,.int .u8 f.fm.toNat,.int .u8 f.grp.toNat,.string (B f.body),.int .i64 f.at_]
theorem ZsP (f:Fr):(frV f).length=6:=rfl
theorem ZsS:(Tryz.prog.info? 33).map (fun i=>(i.zero,i.size,i.bytes))=some (some (.agg zero6),6,56):=by kernel_rfl
section
variable {ops:Array Oper} {rest:List Oper} {o:Oper} {a:Act} {Q:Exit→Act→World→Prop}
theorem Zk4 (hgd:o.guard=none)(s x:Operand)(ho:o.op= .call {callee:= .builtin .append,args:=#[s,x],argTypes:=#[34,34]}) (base:Nat) (v:Value) (L:List Fr) (hs:a.eval s=v) (W:World) (f:Fr)
 (hown:W.ownsRow base 33 6 v L.length (L.flatMap frV)) (hbase:base≤W.heap.size) (hlen:L.length≤16777216) (hx:a.eval x= .slice (some ⟨W.heap.size,0,none⟩) 1 1)
 (h:∀v' w',Hid (w'.ownsRow base 33 6 v' (L++[f]).length ((L++[f]).flatMap frV))→Below base W w'→wpList Tryz.prog ops Q rest (a.put o.dst v') w'):
 wpList Tryz.prog ops Q (o::rest) a (W.alloc (.cells #[.string (B f.id),.int .u8 f.st.toNat,.int .u8 f.fm.toNat,.int .u8 f.grp.toNat,.string (B f.body),.int .i64 f.at_] 33)):=by
 obtain⟨i0,hi,iz0,iz1,iz2⟩:=info_parts ZsS;refine wpList_append_own _ hgd s x 34 ho base 33 i0 _ 6 56 Tryz.underlying34 hi iz0 iz1 iz2 rfl (by decide) v L.length _ hs (hown.alloc _) ⟨W.heap.size,0,none⟩ 1 1 (frV f) hx rfl (ZfP W (frV f) _) ?_ (by unfold maxLen;omega) (by omega) (by simp;omega) ?_
 · intro u hu;simp only [frV,List.mem_cons,List.not_mem_nil,or_false] at hu;rcases hu with rfl|rfl|rfl|rfl|rfl|rfl<;>rfl
 · intro v6 w6 hown6 hg6 _;refine h v6 w6 (Lib.hid ?_) (Z7 ((Below.refl _ W).alloc hbase _) (hown.alloc _) hg6 (by simp;omega) (Nat.le_refl _));rw [List.flatMap_append,List.length_append];simpa [frV] using hown6
end
def lenV:Value→Nat
 | .slice _ n _=>n
 |_=>0
theorem ZaQ {w:World} {base:Nat} {e:TypeId} {size:Nat} {v:Value} {n:Nat} {xs:List Value} (h:w.ownsRow base e size v n xs):lenV v=n∧∃A c,v= .slice A n c∧n≤c:=by
 rcases h.2 with⟨rfl,rfl⟩|⟨g,cap,cur,rfl,hb,hg,hnc,_⟩
 · exact⟨rfl,none,0,rfl,Nat.le_refl _⟩
 · exact⟨rfl,_,_,rfl,hnc⟩
theorem ZfL (l:List UInt8):∀i,i≤l.length→(∀j (h:j<l.length),j<i→l[j]=0)→ZbB l=(ZbB (l.drop i)).map (· +i)
 |0,_,_=>by simp
 |i+1,hi,h=>by
  rw [ZfL l i (by omega) (fun j hj hji=>h j hj (by omega)),List.drop_eq_getElem_cons (show i<l.length by omega),ZbB];rw [if_pos (h i (by omega) (by omega)),Option.map_map];congr 1
  funext x;simp;omega
def Zgd (K:Nat)(w:World)(r:List Fr×InS)(e:Ending)(w':World):Prop:=∃vl,e= .returned vl∧Zg frV w.heap.size w' vl r.1∧InAt w' K r.2∧But K w.heap.size w w'
structure LSt (w0 wx:World)(K:Nat)(v:Int)(rev fl:UInt8)(fs:List Fr)(vl:Value)(s:InS):Prop where
 hd:Bx wx w0.heap.size (three v rev fl) 27
 inn:InAt wx K s
 own:wx.ownsRow (w0.heap.size+1) 33 6 vl fs.length (fs.flatMap frV)
 nil_:fs=[]→vl= .slice none 0 0
 but:But K w0.heap.size w0 wx
 hK:K<w0.heap.size
section
variable {w0 w w':World} {K:Nat} {v:Int} {rev fl:UInt8} {fs:List Fr} {vl:Value} {s s':InS}
theorem LSt.below (h:LSt w0 w K v rev fl fs vl s)(hb:Below w.heap.size w w'):LSt w0 w' K v rev fl fs vl s:=
 ⟨h.hd.below hb,h.inn.below hb,ZG h.own hb,h.nil_,h.but.trans (.of (hb.mono h.but.size)),h.hK⟩
theorem LSt.butK (h:LSt w0 w K v rev fl fs vl s)(hi:InAt w' K s')(hb:But K w.heap.size w w'):LSt w0 w' K v rev fl fs vl s':=
 ⟨h.hd.but hb (by have:=h.hK;omega),hi,ZdE h.own hb (by have:=h.hK;omega),h.nil_,h.but.trans (hb.mono h.but.size),h.hK⟩
theorem LSt.alloc (h:LSt w0 w K v rev fl fs vl s)(o:Obj):LSt w0 (w.alloc o) K v rev fl fs vl s:=h.below ((Below.refl _ _).alloc (Nat.le_refl _) _)
theorem LSt.drewN (h:LSt w0 w K v rev fl fs vl s)(n:Nat):LSt w0 (w.drewN n) K v rev fl fs vl s:=h.below (below_drewN (Below.refl _ _) n)
theorem LSt.drew (h:LSt w0 w K v rev fl fs vl s):LSt w0 w.drew K v rev fl fs vl s:=h.below (below_drewN (Below.refl _ _) 1)
theorem LSt.cells (h:LSt w0 w K v rev fl fs vl s):(w.cell? ⟨w0.heap.size,0,none⟩=some (.int .i64 v)∧w.cell? ⟨w0.heap.size,1,none⟩=some (.int .u8 rev.toNat)∧w.cell? ⟨w0.heap.size,2,none⟩=some (.int .u8 fl.toNat))∧w0.heap.size<w.heap.size∧w0.heap.size+1≤w.heap.size:=
 ⟨⟨h.hd.cell 0,h.hd.cell 1,h.hd.cell 2⟩,h.hd.lt,h.hd.lt⟩
end
structure RSt (w0 wx:World)(K F:Nat)(v:Int)(rev fl:UInt8)(fs:List Fr)(vl:Value)(s:InS)(f:Fr):Prop where
 st:LSt w0 wx K v rev fl fs vl s
 frame:Zq wx F f
def ZdL:Fr:=⟨[],0,0,0,[],0⟩
theorem Zvg {B g:Nat} {w wx:World} (h:Below B w wx)(hg:B≤g)(q b c d e f:Value):Below B w ((((((wx.setCell ⟨g,0,none⟩ q).setCell ⟨g,1,none⟩ b).setCell ⟨g,2,none⟩ c).setCell ⟨g,3,none⟩ d).setCell ⟨g,4,none⟩ e).setCell ⟨g,5,none⟩ f):=
 (((((h.setCell (p:=⟨g,0,none⟩) hg q).setCell (p:=⟨g,1,none⟩) hg b).setCell (p:=⟨g,2,none⟩) hg c).setCell (p:=⟨g,3,none⟩) hg d).setCell (p:=⟨g,4,none⟩) hg e).setCell (p:=⟨g,5,none⟩) hg f
theorem ZoF {w:World} {g:Nat} {T:TypeId} (h:Bx w g #[.string ⟨#[]⟩,.int .u8 0,.int .u8 0,.int .u8 0,.string ⟨#[]⟩,.int .i64 0] T):
 (w.cell? ⟨g,0,none⟩=some (.string ⟨#[]⟩)∧w.cell? ⟨g,1,none⟩=some (.int .u8 0)∧w.cell? ⟨g,2,none⟩=some (.int .u8 0)∧w.cell? ⟨g,3,none⟩=some (.int .u8 0)∧w.cell? ⟨g,4,none⟩=some (.string ⟨#[]⟩)∧w.cell? ⟨g,5,none⟩=some (.int .i64 0))∧(∀j,w.frozen? ⟨g,j,none⟩=false)∧g<w.heap.size:=
 ⟨⟨h.cell 0,h.cell 1,h.cell 2,h.cell 3,h.cell 4,h.cell 5⟩,h.free,h.lt⟩
theorem Bx.set6 {w:World} {k g:Nat} {cs:Array Value} {T:TypeId} (h:Bx w k cs T)(hk:k≠g)(q b c d e f:Value):Bx ((((((w.setCell ⟨g,0,none⟩ q).setCell ⟨g,1,none⟩ b).setCell ⟨g,2,none⟩ c).setCell ⟨g,3,none⟩ d).setCell ⟨g,4,none⟩ e).setCell ⟨g,5,none⟩ f) k cs T:=
 (((((h.set hk 0 q).set hk 1 b).set hk 2 c).set hk 3 d).set hk 4 e).set hk 5 f
theorem Zrz (w:World)(g B:Nat)(q b c d e f:Value):But g B w ((((((w.setCell ⟨g,0,none⟩ q).setCell ⟨g,1,none⟩ b).setCell ⟨g,2,none⟩ c).setCell ⟨g,3,none⟩ d).setCell ⟨g,4,none⟩ e).setCell ⟨g,5,none⟩ f):=
 ((((((But.refl g B w).setCell (p:=⟨g,0,none⟩) (.inr rfl) q).setCell (p:=⟨g,1,none⟩) (.inr rfl) b).setCell (p:=⟨g,2,none⟩) (.inr rfl) c).setCell (p:=⟨g,3,none⟩) (.inr rfl) d).setCell (p:=⟨g,4,none⟩) (.inr rfl) e).setCell (p:=⟨g,5,none⟩) (.inr rfl) f
theorem LSt.six {w0 w:World} {K g:Nat} {v:Int} {rev fl:UInt8} {fs:List Fr} {vl:Value} {s:InS} (h:LSt w0 w K v rev fl fs vl s)(h1:w0.heap.size<g)(h3:∀k,vl.ownBlock=some k→k<g)(q b c d e f:Value):
 LSt w0 ((((((w.setCell ⟨g,0,none⟩ q).setCell ⟨g,1,none⟩ b).setCell ⟨g,2,none⟩ c).setCell ⟨g,3,none⟩ d).setCell ⟨g,4,none⟩ e).setCell ⟨g,5,none⟩ f) K v rev fl fs vl s:=
 ⟨h.hd.set6 (by omega) _ _ _ _ _ _,h.inn.set6 (by have:=h.hK;omega) _ _ _ _ _ _,h.own.kept (row:=some g) (Zrx (Zrz w g _ q b c d e f)) (.inr fun e=>by have:=h3 g e;omega),h.nil_,h.but.set6 (by omega) _ _ _ _ _ _,h.hK⟩
theorem Bx.same6 {w w':World} {g B:Nat} {cs:Array Value} {T:TypeId} (h:Bx w g cs T)(hb:Below B w w')(hg:g<B):Bx w' g cs T:=(hb.block g hg).trans h
def ZrRel (l:List UInt8)(i:Value):Prop:=∃k:Nat,k≤l.length∧i= .int .i64 k∧∀j (h:j<l.length),j<k→l[j]=0
def FmRel (w0:World)(K:Nat)(v:Int)(rev fl:UInt8)(s0:InS)(vl:Value)(wr:World):Prop:=∃(fs:List Fr) (s:InS),fs.length≤4096∧LSt w0 wr K v rev fl fs vl s∧
 Zau v.toNat (ZL fl) 4096 s0=(fs++(Zau v.toNat (ZL fl) (4096 - fs.length) s).1,(Zau v.toNat (ZL fl) (4096 - fs.length) s).2)
theorem Zpy (K:Nat)(s0:InS)(v:Int)(rev fl:UInt8)(w:World)(h:InAt w K s0):
 Calls Tryz.prog 85 #[.agg (three v rev fl),.pointer (some ⟨K,0,none⟩)] w (Zgd K w (ZcK v.toNat (ZL fl) s0)):=by
 generalize hP:Zgd K w (ZcK v.toNat (ZL fl) s0)=P at*;have H:=Lib.hid h;have hKl:=h.lt;have hsp:=fun w=>ZhV v rev fl w;clear h;go_enter Tryz.func85,Tryz.ntmps85
 go_wp2_with fail
 go_loopw [5] (fun vl wr=>FmRel w K v rev fl s0 vl wr) (fun vl _=>4097 - lenV vl)
 case atStart=>exact⟨[],s0,by simp,⟨Bx.new w _ _,H.out.alloc _,⟨rfl,.inl ⟨rfl,rfl⟩⟩,fun _=>rfl,(But.refl _ _ _).alloc (Nat.le_refl _) _,hKl⟩,by simp⟩
 case round=>
  obtain⟨fs,s,hfs,hst,hlp⟩:=hrel;have ST:=Lib.hid hst;have HL:=Lib.hid hlp;obtain⟨hln,A0,c0,hvs,hc0⟩:=ZaQ hst.own;have hln':=Lib.hid hln;clear hst hlp hln;subst hvs;have hpr:=fun w h=>Zpc K s v (ZL fl) w h;obtain⟨r,hr⟩:∃r,r=Za2 v.toNat s (ZL fl):=⟨_,rfl⟩
  rw [←hr] at hpr;have Hr:=Lib.hid hr;clear hr;obtain⟨⟨d0,d1,d2⟩,l1,l2⟩:=ST.out.cells;go_upto_region 2 with fail
  go_cut [6,7] (fun s6 s7 wx=>s7= .bool r.1.isSome∧∃F,s6= .pointer (some ⟨F,0,none⟩)∧RSt w wx K F v rev fl fs (.slice A0 fs.length c0) r.2 (r.1.getD ZdL))
  case first=>
   obtain⟨o,s'⟩:=r;have hpf:∀w,InAt w K s→Calls Tryz.prog 86 #[.int .i64 v,.pointer (some ⟨K,0,none⟩),.bool (ZL fl)] w fun e w'=>e= .returned (.tuple #[.agg #[.string (B (o.getD ZdL).id),.int .u8 (o.getD ZdL).st.toNat,.int .u8 (o.getD ZdL).fm.toNat,.int .u8 (o.getD ZdL).grp.toNat,.string (B (o.getD ZdL).body),.int .i64 (o.getD ZdL).at_],.bool o.isSome])∧InAt w' K s'∧But K w.heap.size w w':=by
    intro w h;refine(hpr w h).mono ?_;cases o with
    |none=>rintro e w2 ⟨h2,hb2,rfl⟩;exact⟨rfl,h2,hb2⟩
    |some f=>rintro e w2 ⟨h2,hb2,rfl⟩;exact⟨rfl,h2,hb2⟩
   have hob:∀k,(Value.slice A0 fs.length c0).ownBlock=some k→k<wr.heap.size:=fun k hk=>(ST.out.own.lt k hk).2;have Hob:=Lib.hid hob
   try simp only
   clear hpr hob;generalize o.isSome=ob at*;generalize o.getD ZdL=f at*;go_region_held3 (fun w'=>w'.cell? ⟨w.heap.size,0,none⟩=some (.int .i64 v)∧w'.cell? ⟨w.heap.size,1,none⟩=some (.int .u8 rev.toNat)∧w'.cell? ⟨w.heap.size,2,none⟩=some (.int .u8 fl.toNat))
    (first|with_reducible exact ST.out.drew.cells.1|with_reducible exact ST1.out.cells.1|with_reducible exact ST2.out.cells.1|with_reducible exact(ST.out.alloc _).drew.cells.1|with_reducible exact(ST1.out.alloc _).cells.1|with_reducible exact(ST2.out.alloc _).cells.1|with_reducible exact(ST2.out.six (by omega) (fun k hk=>by have:=Hob.out k hk;omega) _ _ _ _ _ _).cells.1)
    (first
    |(go_at_call 39;refine(hsp _).mono ?_;rintro e w1 ⟨rfl,hb1⟩;have ST1:Hid (LSt w w1 K v rev fl fs (.slice A0 fs.length c0) s):=Lib.hid (by first|exact(ST.out.drewN 1).below hb1|exact((ST.out.alloc (.cells #[.string ⟨#[]⟩,.int .u8 0,.int .u8 0,.int .u8 0,.string ⟨#[]⟩,.int .i64 0] 33)).drewN 1).below hb1);have hw1:wr.heap.size≤w1.heap.size:=(by have:=hb1.size;simp at this;omega))
    |(go_at_call 86;refine(hpf _ (by first|exact ST1.out.inn|exact(ST1.out.alloc _).inn)).mono ?_;rintro e w2 ⟨rfl,h2,hb2⟩;have ST2:Hid (LSt w w2 K v rev fl fs (.slice A0 fs.length c0) s'):=Lib.hid (by first|exact ST1.out.butK h2 hb2|exact(ST1.out.alloc _).butK h2 hb2);first|(have BX:Bx w2 wr.heap.size #[.string ⟨#[]⟩,.int .u8 0,.int .u8 0,.int .u8 0,.string ⟨#[]⟩,.int .i64 0] 33:=(Bx.below (w:=(wr.alloc (.cells #[.string ⟨#[]⟩,.int .u8 0,.int .u8 0,.int .u8 0,.string ⟨#[]⟩,.int .i64 0] 33)).drew) (Bx.new wr _ _) hb1).but hb2 (by omega);obtain⟨⟨x0,x1,x2,x3,x4,x5⟩,xf,xl⟩:=ZoF (g:=wr.heap.size) BX;have BX':=Lib.hid BX;clear BX)|(have BX:Bx w2 w1.heap.size #[.string ⟨#[]⟩,.int .u8 0,.int .u8 0,.int .u8 0,.string ⟨#[]⟩,.int .i64 0] 33:=(Bx.new w1 _ _).but hb2 (by omega);obtain⟨⟨x0,x1,x2,x3,x4,x5⟩,xf,xl⟩:=ZoF (g:=w1.heap.size) BX;have BX':=Lib.hid BX;clear BX)|skip))
   · go_wp2_with fail
     go_meet
     exact⟨rfl,_,rfl,ST2.out.alloc _,Bx.new w2 _ _⟩
   · go_wp2_with fail
     go_meet
     exact⟨rfl,_,rfl,ST2.out.six (by omega) (fun k hk=>by have:=Hob.out k hk;omega) _ _ _ _ _ _,BX'.out.zero6 _ _ _ _ _ _⟩
   · go_wp2_with fail
     go_meet
     exact⟨rfl,_,rfl,ST2.out.six (by omega) (fun k hk=>by have:=Hob.out k hk;omega) _ _ _ _ _ _,BX'.out.zero6 _ _ _ _ _ _⟩
  case rest=>
   obtain⟨rfl,F,rfl,hRS⟩:=hcut;have SR:=Lib.hid hRS;clear hRS d0 d1 d2 l1 l2;obtain⟨⟨d0,d1,d2⟩,l1,l2⟩:=SR.out.st.cells;obtain⟨o,sX⟩:=r;cases o with
   |none=>
    have hX:Zau v.toNat (ZL fl) 4096 s0=(fs,sX):=by
     rw [HL.out];have:Zau v.toNat (ZL fl) (4096 - fs.length) s=([],sX):=by
      cases(4096 - fs.length)<;>(unfold Zau;rw [←Hr.out])
     rw [this,List.append_nil]
    have HX:=Lib.hid hX;have STX:Hid (LSt w wc K v rev fl fs (.slice A0 fs.length c0) sX):=Lib.hid SR.out.st;clear hX;go_wp2_with fail
    have hat:=fun w h=>ZdN K sX w h;have hrs:=fun w h=>Zfp K sX w h;unfold Zh at hrs;obtain⟨q,hq⟩:∃q,q=sX.rest:=⟨_,rfl⟩
    rw [←hq] at hrs;have hfr:ZcK v.toNat (ZL fl) s0=match ZbB q.1 with|none=>(fs,q.2)|some i=>(fs,q.2.fail 1 (sX.at_+i)):=by
     unfold ZcK;rw [HX.out,hq];rfl
    have Hfr:=Lib.hid hfr;have hql:q.1.length≤1000000000:=by rw [hq];exact Zjh sX STX.out.inn.len
    have hbase:=STX.out.inn.base;have hatl:sX.at_≤2000000000:=by
     have h2:=STX.out.inn.fits;have h4:=STX.out.inn.len;rw [InS.at_,ZdG sX sX.n hbase (by omega)];omega
    have hszq:=Zn q.1;clear hfr hq;generalize sX.at_=atX at*;go_wp2_with (first
     |(go_at_call 70;refine(hat _ STX.out.inn).mono ?_;rintro e w8 ⟨rfl,rfl⟩)
     |(go_at_call 75;refine(hrs _ STX.out.inn).mono ?_;rintro e w9 ⟨rfl,h9,hb9⟩;have STY:=Lib.hid (STX.out.butK h9 hb9);clear h9 hb9))
    go_loop [39] (fun i=>ZrRel q.1 i) (fun i=>q.1.length - (intOf i).toNat)
    case atStart=>exact⟨0,Nat.zero_le _,rfl,fun j _ h=>by omega⟩
    case round=>
     obtain⟨k,hk,rfl,hz⟩:=hrel;have Hz:=Lib.hid hz;clear hz;by_cases hlt:k<q.1.length
     · have hg:=Zbb q.1 k hlt;by_cases hx:q.1[k]=0
       · have hx0:((q.1[k].toNat:Int) !=0)=false:=by rw [hx];rfl
         have Hx:=Lib.hid hx;clear hx;go_wp2_with fail
         go_round
         case rel=>
          refine⟨k+1,by omega,by go_num,fun j hj hjk=> ?_⟩;by_cases e:j=k
          · subst e;exact Hx.out
          · exact Hz.out j hj (by omega)
         case measure=>simp [intOf];omega
       · have hx0:((q.1[k].toNat:Int) !=0)=true:=by rw [Zdz];simpa using hx
         have hnz:ZbB q.1=some k:=by
          rw [ZfL q.1 k (by omega) Hz.out,List.drop_eq_getElem_cons hlt,ZbB,if_neg hx];simp
         have hf:=fun w h=>Za7 K q.2 1 ((atX:Int)+k) (by decide) (by omega) w h;have hR:=Hfr.out;rw [hnz] at hR;simp only at hR;rw [show(1:Int).toNat=1 from rfl,show((atX:Int)+k).toNat=atX+k by omega] at hf;unfold Zh at hf;have HR2:=Lib.hid hR;clear hR hnz hx;go_wp2_with (go_at_call 124;refine(hf _ STY.out.inn).mono ?_;rintro e w10 ⟨rfl,h10,hb10⟩;have STZ:=Lib.hid (STY.out.butK h10 hb10);clear h10 hb10)
         show P (.returned (.slice A0 fs.length c0)) _
         rw [←hP,HR2.out];exact⟨_,rfl,(Zg.of_own rfl STZ.out.own STZ.out.nil_).low (by omega),STZ.out.inn,STZ.out.but⟩
     · have hk2:k=q.1.length:=by omega
       subst hk2;have hnz:ZbB q.1=none:=by
        rw [ZfL q.1 _ (Nat.le_refl _) Hz.out,List.drop_length];rfl
       have hR:=Hfr.out;rw [hnz] at hR;simp only at hR;have HR2:=Lib.hid hR;clear hR hnz;go_wp2_with fail
       show P (.returned (.slice A0 fs.length c0)) _
       rw [←hP,HR2.out];exact⟨_,rfl,(Zg.of_own rfl STY.out.own STY.out.nil_).low (by omega),STY.out.inn,STY.out.but⟩
   |some f=>
    have hfr6:=SR.out.frame.get;simp only [Option.getD_some] at hfr6;obtain⟨y0,y1,y2,y3,y4,y5⟩:=hfr6;by_cases h4:fs.length=4096
    · have hf:=fun w h=>Za7 K sX 4 (f.at_:Int) (by decide) (by omega) w h;rw [show(4:Int).toNat=4 from rfl,Int.toNat_natCast] at hf;have hX:Zau v.toNat (ZL fl) 4096 s0=(fs,sX.fail 4 f.at_):=by
       rw [HL.out,h4];show(fs++(Zau v.toNat (ZL fl) 0 s).1,_)=_
       have:Zau v.toNat (ZL fl) (4096 - 4096) s=([],sX.fail 4 f.at_):=by
        show Zau v.toNat (ZL fl) 0 s=_
        unfold Zau;rw [←Hr.out]
       rw [show(4096 - 4096)=0 from rfl] at this;rw [this,List.append_nil]
      unfold Zh at hf;obtain⟨sY,hsY⟩:∃sY,sY=sX.fail 4 f.at_:=⟨_,rfl⟩
      rw [←hsY] at hf hX;have HX:=Lib.hid hX;have hc4:((fs.length:Int)==4096)=true:=by rw [h4];rfl
      clear hX hsY h4;go_upto_region 7 with(go_at_call 124;refine(hf _ SR.out.st.inn).mono ?_;rintro e w4 ⟨rfl,h4,hb4⟩;have STX:=Lib.hid (SR.out.st.butK h4 hb4);clear h4 hb4)
      have hat:=fun w h=>ZdN K sY w h;have hrs:=fun w h=>Zfp K sY w h;unfold Zh at hrs;obtain⟨q,hq⟩:∃q,q=sY.rest:=⟨_,rfl⟩
      rw [←hq] at hrs;have hfr:ZcK v.toNat (ZL fl) s0=match ZbB q.1 with|none=>(fs,q.2)|some i=>(fs,q.2.fail 1 (sY.at_+i)):=by
       unfold ZcK;rw [HX.out,hq];rfl
      have Hfr:=Lib.hid hfr;have hql:q.1.length≤1000000000:=by rw [hq];exact Zjh sY STX.out.inn.len
      have hbase:=STX.out.inn.base;have hatl:sY.at_≤2000000000:=by
       have h2:=STX.out.inn.fits;have h4:=STX.out.inn.len;rw [InS.at_,ZdG sY sY.n hbase (by omega)];omega
      have hszq:=Zn q.1;clear hfr hq;generalize sY.at_=atX at*;go_wp2_with (first
       |(go_at_call 70;refine(hat _ STX.out.inn).mono ?_;rintro e w8 ⟨rfl,rfl⟩)
       |(go_at_call 75;refine(hrs _ STX.out.inn).mono ?_;rintro e w9 ⟨rfl,h9,hb9⟩;have STY:=Lib.hid (STX.out.butK h9 hb9);clear h9 hb9))
      go_loop [39] (fun i=>ZrRel q.1 i) (fun i=>q.1.length - (intOf i).toNat)
      case atStart=>exact⟨0,Nat.zero_le _,rfl,fun j _ h=>by omega⟩
      case round=>
       obtain⟨k,hk,rfl,hz⟩:=hrel;have Hz:=Lib.hid hz;clear hz;by_cases hlt:k<q.1.length
       · have hg:=Zbb q.1 k hlt;by_cases hx:q.1[k]=0
         · have hx0:((q.1[k].toNat:Int) !=0)=false:=by rw [hx];rfl
           have Hx:=Lib.hid hx;clear hx;go_wp2_with fail
           go_round
           case rel=>
            refine⟨k+1,by omega,by go_num,fun j hj hjk=> ?_⟩;by_cases e:j=k
            · subst e;exact Hx.out
            · exact Hz.out j hj (by omega)
           case measure=>simp [intOf];omega
         · have hx0:((q.1[k].toNat:Int) !=0)=true:=by rw [Zdz];simpa using hx
           have hnz:ZbB q.1=some k:=by
            rw [ZfL q.1 k (by omega) Hz.out,List.drop_eq_getElem_cons hlt,ZbB,if_neg hx];simp
           have hf:=fun w h=>Za7 K q.2 1 ((atX:Int)+k) (by decide) (by omega) w h;have hR:=Hfr.out;rw [hnz] at hR;simp only at hR;rw [show(1:Int).toNat=1 from rfl,show((atX:Int)+k).toNat=atX+k by omega] at hf;unfold Zh at hf;have HR2:=Lib.hid hR;clear hR hnz hx;go_wp2_with (go_at_call 124;refine(hf _ STY.out.inn).mono ?_;rintro e w10 ⟨rfl,h10,hb10⟩;have STZ:=Lib.hid (STY.out.butK h10 hb10);clear h10 hb10)
           show P (.returned (.slice A0 fs.length c0)) _
           rw [←hP,HR2.out];exact⟨_,rfl,(Zg.of_own rfl STZ.out.own STZ.out.nil_).low (by omega),STZ.out.inn,STZ.out.but⟩
       · have hk2:k=q.1.length:=by omega
         subst hk2;have hnz:ZbB q.1=none:=by
          rw [ZfL q.1 _ (Nat.le_refl _) Hz.out,List.drop_length];rfl
         have hR:=Hfr.out;rw [hnz] at hR;simp only at hR;have HR2:=Lib.hid hR;clear hR hnz;go_wp2_with fail
         show P (.returned (.slice A0 fs.length c0)) _
         rw [←hP,HR2.out];exact⟨_,rfl,(Zg.of_own rfl STY.out.own STY.out.nil_).low (by omega),STY.out.inn,STY.out.but⟩
    · have hc4:((fs.length:Int)==4096)=false:=by rw [beq_eq_false_iff_ne];omega
      have hX:Zau v.toNat (ZL fl) 4096 s0=((fs++[f])++(Zau v.toNat (ZL fl) (4096 - (fs++[f]).length) sX).1,(Zau v.toNat (ZL fl) (4096 - (fs++[f]).length) sX).2):=by
       rw [HL.out];obtain⟨n,hn⟩:∃n,4096 - fs.length=n+1:=⟨4096 - fs.length - 1,by omega⟩
       have h1:Zau v.toNat (ZL fl) (4096 - fs.length) s=(f::(Zau v.toNat (ZL fl) n sX).1,(Zau v.toNat (ZL fl) n sX).2):=by
        rw [hn];conv=>lhs;unfold Zau;rw [←Hr.out]
       have h2:4096 - (fs++[f]).length=n:=by simp;omega
       rw [h1,h2];simp
      have HX:=Lib.hid hX;clear hX;go_wp2_with (at_builtin;refine Zk4 rfl _ _ rfl (w.heap.size+1) (.slice A0 fs.length c0) fs rfl wc f SR.out.st.own (by omega) (by omega) rfl ?_;intro v6 w6 HO6 hb6;have STX:Hid (LSt w w6 K v rev fl (fs++[f]) v6 sX):=Lib.hid ⟨SR.out.st.hd.same6 hb6 (by omega),SR.out.st.inn.same (hb6.block _ (by omega)),HO6.out,fun h=>by simp at h,SR.out.st.but.trans (.of (hb6.mono (by omega))),hKl⟩;clear hb6)
      have hl6:=(ZaQ STX.out.own).1;go_roundw
      case rel=>exact⟨fs++[f],sX,by simp;omega,STX.out,HX.out⟩
      case measure=>rw [hl6];simp [lenV];omega
def Zfr (w:World)(r:Except (Nat×Nat) (Option Tg×List UInt8))(e:Ending)(w':World):Prop:=Below w.heap.size w w'∧match r with
 | .error x=>e= .returned (.tuple #[.agg #[.int .i64 0,.int .u8 0,.int .u8 0,.slice none 0 0],.string ⟨#[]⟩,.agg #[.int .i64 x.1,.int .i64 x.2]])∧x.1≠0
 | .ok (none,rest)=>e= .returned (.tuple #[.agg #[.int .i64 0,.int .u8 0,.int .u8 0,.slice none 0 0],.string (B rest),.agg #[.int .i64 0,.int .i64 0]])
 | .ok (some t,rest)=>∃vl,e= .returned (.tuple #[.agg #[.int .i64 t.v,.int .u8 t.rev.toNat,.int .u8 t.fl.toNat,vl],.string (B rest),.agg #[.int .i64 0,.int .i64 0]])∧Zg frV w.heap.size w' vl t.fs
namespace InS
theorem take_ok (s:InS)(k:Nat)(h:(s.take k).2.e=0):s.e=0∧(s.take k).2.n=s.n+k∧(s.take k).2.t=s.t:=by
 unfold take at h⊢;split at h
 · contradiction
 · rename_i h0
   have h0':s.e=0:=by simpa using h0
   split at h
   · simp only [short,fail] at h;rw [if_pos ⟨h0',by decide⟩] at h;exact absurd h Nat.one_ne_zero
   · rename_i h1
     rw [if_neg h0,if_neg h1];exact⟨h0',rfl,rfl⟩
theorem big_ok (s:InS)(k:Nat)(hk:k≤8)(h:(s.big k).2.e=0):s.e=0∧(s.big k).2.n=s.n+k∧(s.big k).2.t=s.t:=by
 unfold big at h⊢;simp only [Nat.min_eq_left hk] at h⊢;exact take_ok s k h
theorem fail_ok (s:InS)(e a:Nat)(he:e≠0):(s.fail e a).e≠0:=by
 unfold fail;split
 · exact he
 · rename_i h;exact fun h0=>h ⟨h0,he⟩
theorem safe_ok (s:InS)(h:s.safe.2.e=0):s.e=0∧s.safe.2.n=s.n+4∧s.safe.2.t=s.t:=by
 have hs:s.safe=match InS.high (s.take 4).1 with
  |some i=>(0,(s.take 4).2.fail 1 ((s.take 4).2.place ((s.take 4).2.n - (s.take 4).1.length+i)))
  |none=>(Za3 (s.take 4).1,(s.take 4).2):=rfl
 rw [hs] at h⊢;clear hs;cases hh:InS.high (s.take 4).1 with
 |some i=>rw [hh] at h;exact absurd h (fail_ok _ _ _ (by decide))
 |none=>rw [hh] at h;exact take_ok s 4 h
theorem want_ok (s:InS)(l:List UInt8)(h:(s.want l).2.e=0):s.e=0∧(s.want l).2.n=s.n+l.length∧(s.want l).2.t=s.t:=by
 unfold want at h⊢;by_cases h0:s.e≠0
 · rw [if_pos h0] at h;exact absurd h h0
 · rw [if_neg h0] at h⊢;cases hd:differ l (s.t.drop s.n) with
   |some i=>rw [hd] at h;exact absurd h (fail_ok _ _ _ (by decide))
   |none=>
    rw [hd] at h;simp only at h⊢;split at h
    · exact absurd h (fail_ok _ _ _ (by decide))
    · rename_i h1
      rw [if_neg h1];exact⟨by simpa using h0,rfl,rfl⟩
end InS
theorem Zs6 (s:InS)(h:(Zcr s).2.e=0):s.e=0∧(Zcr s).2.n=s.n+6∧(Zcr s).2.t=s.t:=by
 unfold Zcr at h⊢;obtain⟨q,hq⟩:∃q,q=(s.want ZT).2:=⟨_,rfl⟩
 obtain⟨a,ha⟩:∃a,a=q.big 1:=⟨_,rfl⟩
 obtain⟨b,hb⟩:∃b,b=a.2.big 1:=⟨_,rfl⟩
 obtain⟨c,hc⟩:∃c,c=b.2.big 1:=⟨_,rfl⟩
 simp only [←hq,←ha,←hb,←hc] at h⊢;by_cases hE:c.2.e≠0
 · rw [if_pos hE] at h;exact absurd h hE
 · rw [if_neg hE] at h⊢;have key:∀(p:Prop) [Decidable p] (x:InS) (e k:Nat),e≠0→(if p then x.fail e k else x).e=0→¬p∧x.e=0:=by
    intro p _ x e k he hx;by_cases hp:p
    · rw [if_pos hp] at hx;exact absurd hx (InS.fail_ok _ _ _ he)
    · rw [if_neg hp] at hx;exact⟨hp,hx⟩
   obtain⟨n4,h4⟩:=key _ _ _ _ (by decide) h;obtain⟨n3,h3⟩:=key _ _ _ _ (by decide) h4;obtain⟨n2,h2⟩:=key _ _ _ _ (by decide) h3;obtain⟨n1,h1⟩:=key _ _ _ _ (by decide) h2;rw [if_neg n4,if_neg n3,if_neg n2,if_neg n1];have k1:=InS.big_ok b.2 1 (by omega) (by rw [←hc];exact h1);have k2:=InS.big_ok a.2 1 (by omega) (by rw [←hb];exact k1.1);have k3:=InS.big_ok q 1 (by omega) (by rw [←ha];exact k2.1);have k4:=InS.want_ok s ZT (by rw [←hq];exact k3.1);rw [←hc] at k1;rw [←hb] at k2;rw [←ha] at k3;rw [←hq] at k4;have:ZT.length=3:=rfl;exact⟨k4.1,by show c.2.n=_;omega,by show c.2.t=_;rw [k1.2.2,k2.2.2,k3.2.2,k4.2.2]⟩
theorem ZfO {P:Program} {fn:Func} {p t q:Tmp} {ty ty2:TypeId} (h:fn.results=#[.cell p ty,.tmp t,.cell q ty2])(tmps:Array Value)(w:World)(g k:Nat)(T T2:TypeId)(cs cs2:Array Value)(fr fr2:Nat×Nat)(d d2:TypeDesc)(u:Value)
 (hp:tmps.getD p undef= .pointer (some ⟨g,0,none⟩)) (ht:tmps.getD t undef=u) (hq:tmps.getD q undef= .pointer (some ⟨k,0,none⟩)) (hg:w.heap[g]? =some (.cells cs T fr)) (hk:w.heap[k]? =some (.cells cs2 T2 fr2))
 (hu:P.underlying ty=some d) (hd:(match d with| .struct _| .array _ _=>true|_=>false)=true) (hi:(P.info? ty).map (·.size)=some cs.size)
 (hu2:P.underlying ty2=some d2) (hd2:(match d2 with| .struct _| .array _ _=>true|_=>false)=true) (hi2:(P.info? ty2).map (·.size)=some cs2.size):
 (results fn tmps).run P w= .ok (.tuple #[.agg cs,u,.agg cs2]) w:=by
 have hp':tmps[p]?.getD undef= .pointer (some ⟨g,0,none⟩):=by simpa using hp
 have ht':tmps[t]?.getD undef=u:=by simpa using ht
 have hq':tmps[q]?.getD undef= .pointer (some ⟨k,0,none⟩):=by simpa using hq
 simp [results,h,hp',ht',hq',asAddr,run_loadVar_row w g T ty cs fr d hg hu hd hi,run_loadVar_row w k T2 ty2 cs2 fr2 d2 hk hu2 hd2 hi2]
theorem ZcQ {P:Program} {fn:Func} {t q:Tmp} {ty2:TypeId} (h:fn.results=#[.tmp t,.cell q ty2])(tmps:Array Value)(w:World)(k:Nat)(T2:TypeId)(cs2:Array Value)(fr2:Nat×Nat)(d2:TypeDesc)(u:Value)
 (ht:tmps.getD t undef=u) (hq:tmps.getD q undef= .pointer (some ⟨k,0,none⟩)) (hk:w.heap[k]? =some (.cells cs2 T2 fr2))
 (hu2:P.underlying ty2=some d2) (hd2:(match d2 with| .struct _| .array _ _=>true|_=>false)=true) (hi2:(P.info? ty2).map (·.size)=some cs2.size):
 (results fn tmps).run P w= .ok (.tuple #[u,.agg cs2]) w:=by
 have ht':tmps[t]?.getD undef=u:=by simpa using ht
 have hq':tmps[q]?.getD undef= .pointer (some ⟨k,0,none⟩):=by simpa using hq
 simp [results,h,ht',hq',asAddr,run_loadVar_row w k T2 ty2 cs2 fr2 d2 hk hu2 hd2 hi2]
theorem ZqR (file:List UInt8)(hl:file.length≤900000000)(h3:file.take 3≠ZT)(w:World):
 Calls Tryz.prog 29 #[.string (B file)] w (Zfr w (ZbU file)):=by
 have hR:ZbU file= .ok (none,file):=by unfold ZbU;rw [if_pos h3]
 rw [hR];generalize hP:Zfr w (.ok (none,file))=P at*;have hsz:=Zn file;have fin:∀(tm:Array Value),tm.getD 2 undef= .pointer (some ⟨w.heap.size,0,none⟩)→tm.getD 3 undef= .string (B file)→tm.getD 4 undef= .pointer (some ⟨w.heap.size+1,0,none⟩)→
  bodyPost Tryz.prog Tryz.f29 P .ret {tmps:=tm,defers:=[]} ((w.alloc (.cells #[.int .i64 0,.int .u8 0,.int .u8 0,.slice none 0 0] 36)).alloc (.cells #[.int .i64 0,.int .i64 0] 39)):=by
  intro tm t2 t3 t4;have b1:=(Bx.new w #[.int .i64 0,.int .u8 0,.int .u8 0,.slice none 0 0] 36).alloc (.cells #[.int .i64 0,.int .i64 0] 39);have b2:=Bx.new (w.alloc (.cells #[.int .i64 0,.int .u8 0,.int .u8 0,.slice none 0 0] 36)) #[.int .i64 0,.int .i64 0] 39;rw [World.size_alloc] at b2;refine bodyPost_ret (ZfO rfl _ _ w.heap.size (w.heap.size+1) _ _ _ _ _ _ _ _ _ t2 t3 t4 b1 b2 Tryz.underlying36 rfl (by kernel_rfl) Tryz.underlying39 rfl (by kernel_rfl)) rfl ?_;rw [←hP];exact⟨((Below.refl _ _).alloc (Nat.le_refl _) _).alloc (by simp) _,rfl⟩
 have Fin:=Lib.hid fin;clear fin hR;by_cases hlen:file.length<3
 · have hlen':(file.length:Int)<3:=by omega
   clear h3 hlen;go_enter Tryz.func29,Tryz.ntmps29
   go_wp2_with fail
   exact Fin.out _ rfl rfl rfl
 · have he:(B file).extract 0 3=B (file.take 3):=by rw [Zf3];rfl
   have hq:((B (file.take 3)).toList==[73,68,51])=false:=by rw [seqB,beq_eq_false_iff_ne];exact h3
   have hq2:((B (file.take 3)).toList !=[73,68,51])=true:=by rw [bne,hq];rfl
   have hq3:¬(B (file.take 3)).toList=[73,68,51]:=by rw [ZiQ];exact h3
   have hlen':¬(file.length:Int)<3:=by omega
   clear h3 hlen;go_enter Tryz.func29,Tryz.ntmps29
   go_wp2_with fail
   exact Fin.out _ rfl rfl rfl
def zTag:Array Value:=#[.int .i64 0,.int .u8 0,.int .u8 0,.slice none 0 0]
structure TSt (w0 wx:World)(K H:Nat)(v:Int)(rev fl:UInt8)(s:InS):Prop where
 r2:Bx wx w0.heap.size zTag 36
 r4:Bx wx (w0.heap.size+1) #[.int .i64 0,.int .i64 0] 39
 hd:Bx wx H (three v rev fl) 27
 inn:InAt wx K s
 low:Below w0.heap.size w0 wx
 hK:w0.heap.size+1<K
 hH:w0.heap.size+1<H
 hKH:K<H
section
variable {w0 w w':World} {K H:Nat} {v:Int} {rev fl:UInt8} {s s':InS}
theorem TSt.below (h:TSt w0 w K H v rev fl s)(hb:Below w.heap.size w w'):TSt w0 w' K H v rev fl s:=
 ⟨h.r2.below hb,h.r4.below hb,h.hd.below hb,h.inn.below hb,h.low.trans (hb.mono h.low.size),h.hK,h.hH,h.hKH⟩
theorem TSt.butK (h:TSt w0 w K H v rev fl s)(hi:InAt w' K s')(hb:But K w.heap.size w w'):TSt w0 w' K H v rev fl s':=
 ⟨h.r2.but hb (by have:=h.hK;omega),h.r4.but hb (by have:=h.hK;omega),h.hd.but hb (by have:=h.hKH;omega),hi,h.low.trans ((hb.mono h.low.size).below (by have:=h.hK;omega)),h.hK,h.hH,h.hKH⟩
theorem TSt.butO {C:Nat} (h:TSt w0 w K H v rev fl s)(hb:But C w.heap.size w w')(hC:H<C):TSt w0 w' K H v rev fl s:=
 ⟨h.r2.but hb (by have:=h.hH;omega),h.r4.but hb (by have:=h.hH;omega),h.hd.but hb (by omega),h.inn.but hb (by have:=h.hKH;omega),h.low.trans ((hb.mono h.low.size).below (by have:=h.hH;omega)),h.hK,h.hH,h.hKH⟩
theorem TSt.alloc (h:TSt w0 w K H v rev fl s)(o:Obj):TSt w0 (w.alloc o) K H v rev fl s:=h.below ((Below.refl _ _).alloc (Nat.le_refl _) _)
theorem TSt.drew (h:TSt w0 w K H v rev fl s):TSt w0 w.drew K H v rev fl s:=h.below (below_drewN (Below.refl _ _) 1)
theorem TSt.cells (h:TSt w0 w K H v rev fl s):(w.cell? ⟨H,0,none⟩=some (.int .i64 v)∧w.cell? ⟨H,1,none⟩=some (.int .u8 rev.toNat)∧w.cell? ⟨H,2,none⟩=some (.int .u8 fl.toNat))∧
 (w.cell? ⟨w0.heap.size,0,none⟩=some (.int .i64 0)∧w.cell? ⟨w0.heap.size,1,none⟩=some (.int .u8 0)∧w.cell? ⟨w0.heap.size,2,none⟩=some (.int .u8 0)∧w.cell? ⟨w0.heap.size,3,none⟩=some (.slice none 0 0))∧
 (w.cell? ⟨w0.heap.size+1,0,none⟩=some (.int .i64 0)∧w.cell? ⟨w0.heap.size+1,1,none⟩=some (.int .i64 0))∧
 ((∀j,w.frozen? ⟨w0.heap.size,j,none⟩=false)∧(∀j,w.frozen? ⟨w0.heap.size+1,j,none⟩=false)∧(∀j,w.frozen? ⟨H,j,none⟩=false))∧w0.heap.size+1<w.heap.size∧H<w.heap.size:=
 ⟨⟨h.hd.cell 0,h.hd.cell 1,h.hd.cell 2⟩,⟨h.r2.cell 0,h.r2.cell 1,h.r2.cell 2,h.r2.cell 3⟩,⟨h.r4.cell 0,h.r4.cell 1⟩,⟨h.r2.free,h.r4.free,h.hd.free⟩,h.r4.lt,h.hd.lt⟩
end
theorem ZrA {w:World} {g:Nat} {T:TypeId} {x0 x1 x2 x3:Value} (h:Bx w g #[x0,x1,x2,x3] T)(a b c d:Value):Bx ((((w.setCell ⟨g,0,none⟩ a).setCell ⟨g,1,none⟩ b).setCell ⟨g,2,none⟩ c).setCell ⟨g,3,none⟩ d) g #[a,b,c,d] T:=by
 have h0:Bx (w.setCell ⟨g,0,none⟩ a) g #[a,x1,x2,x3] T:=h.put 0 a;have h1:Bx _ g #[a,b,x2,x3] T:=h0.put 1 b;have h2:Bx _ g #[a,b,c,x3] T:=h1.put 2 c;exact h2.put 3 d
theorem Bx.drew {w:World} {g:Nat} {cs:Array Value} {T:TypeId} (h:Bx w g cs T):Bx w.drew g cs T:=h
theorem Zck {B:Nat} {a w:World} (h:Below B a w):Below B a w.drew:=below_drewN h 1
theorem Zbo {w:World} {g:Nat} {T:TypeId} {x0 x1:Value} (h:Bx w g #[x0,x1] T)(a b:Value):Bx ((w.setCell ⟨g,0,none⟩ a).setCell ⟨g,1,none⟩ b) g #[a,b] T:=by
 have h0:Bx (w.setCell ⟨g,0,none⟩ a) g #[a,x1] T:=h.put 0 a;exact h0.put 1 b
theorem TSt.fin {w0 w:World} {K H:Nat} {v:Int} {rev fl:UInt8} {s:InS} (h:TSt w0 w K H v rev fl s)(a b c d x y:Value):
 Bx ((((((w.setCell ⟨w0.heap.size,0,none⟩ a).setCell ⟨w0.heap.size,1,none⟩ b).setCell ⟨w0.heap.size,2,none⟩ c).setCell ⟨w0.heap.size,3,none⟩ d).setCell ⟨w0.heap.size+1,0,none⟩ x).setCell ⟨w0.heap.size+1,1,none⟩ y) w0.heap.size #[a,b,c,d] 36∧
 Bx ((((((w.setCell ⟨w0.heap.size,0,none⟩ a).setCell ⟨w0.heap.size,1,none⟩ b).setCell ⟨w0.heap.size,2,none⟩ c).setCell ⟨w0.heap.size,3,none⟩ d).setCell ⟨w0.heap.size+1,0,none⟩ x).setCell ⟨w0.heap.size+1,1,none⟩ y) (w0.heap.size+1) #[x,y] 39∧
 Below w0.heap.size w0 ((((((w.setCell ⟨w0.heap.size,0,none⟩ a).setCell ⟨w0.heap.size,1,none⟩ b).setCell ⟨w0.heap.size,2,none⟩ c).setCell ⟨w0.heap.size,3,none⟩ d).setCell ⟨w0.heap.size+1,0,none⟩ x).setCell ⟨w0.heap.size+1,1,none⟩ y):=by
 have q:Bx w w0.heap.size #[.int .i64 0,.int .u8 0,.int .u8 0,.slice none 0 0] 36:=h.r2;refine⟨((ZrA q a b c d).set (k:=w0.heap.size+1) (by omega) 0 x).set (k:=w0.heap.size+1) (by omega) 1 y,Zbo ((((h.r4.set (k:=w0.heap.size) (by omega) 0 a).set (k:=w0.heap.size) (by omega) 1 b).set (k:=w0.heap.size) (by omega) 2 c).set (k:=w0.heap.size) (by omega) 3 d) x y,?_⟩;exact(((((h.low.setCell (p:=⟨w0.heap.size,0,none⟩) (Nat.le_refl _) a).setCell (p:=⟨w0.heap.size,1,none⟩) (Nat.le_refl _) b).setCell (p:=⟨w0.heap.size,2,none⟩) (Nat.le_refl _) c).setCell (p:=⟨w0.heap.size,3,none⟩) (Nat.le_refl _) d).setCell (p:=⟨w0.heap.size+1,0,none⟩) (Nat.le_succ _) x).setCell (p:=⟨w0.heap.size+1,1,none⟩) (Nat.le_succ _) y
theorem Zg.set {α:Type} {f:α→List Value} {B:Nat} {w:World} {v:Value} {l:List α} (h:Zg f B w v l){g:Nat} (hg:g<B)(j:Nat)(u:Value):Zg f B (w.setCell ⟨g,j,none⟩ u) v l:=by
 rcases h with h|⟨bk,c,h0,h1,h2,h5,h3,h4⟩
 · exact .inl h
 · exact .inr ⟨bk,c,h0,h1,h2,h5,by simpa using h3,fun i x hx=>by rw [World.cell?_setCell_other _ _ _ _ (fun e=>by injection e with e;omega)];exact h4 i x hx⟩
theorem TSt.setFl {w0 w:World} {K H:Nat} {v:Int} {rev fl:UInt8} {s:InS} (h:TSt w0 w K H v rev fl s)(x:UInt8):TSt w0 (w.setCell ⟨H,2,none⟩ (.int .u8 x.toNat)) K H v rev x s:=
 ⟨h.r2.set (by have:=h.hH;omega) _ _,h.r4.set (by have:=h.hH;omega) _ _,h.hd.put 2 _,h.inn.set (by have:=h.hKH;omega) _ _,h.low.setCell (p:=⟨H,2,none⟩) (by have:=h.hH;simp;omega) _,h.hK,h.hH,h.hKH⟩
theorem keep4 {w:World} {H g:Nat} (hg:H≠g){x y z:Value} (h:w.cell? ⟨H,0,none⟩=some x∧w.cell? ⟨H,1,none⟩=some y∧w.cell? ⟨H,2,none⟩=some z)(a b c d:Value):
 ((((w.setCell ⟨g,0,none⟩ a).setCell ⟨g,1,none⟩ b).setCell ⟨g,2,none⟩ c).setCell ⟨g,3,none⟩ d).cell? ⟨H,0,none⟩=some x∧((((w.setCell ⟨g,0,none⟩ a).setCell ⟨g,1,none⟩ b).setCell ⟨g,2,none⟩ c).setCell ⟨g,3,none⟩ d).cell? ⟨H,1,none⟩=some y∧((((w.setCell ⟨g,0,none⟩ a).setCell ⟨g,1,none⟩ b).setCell ⟨g,2,none⟩ c).setCell ⟨g,3,none⟩ d).cell? ⟨H,2,none⟩=some z:=by
 have q:∀(w:World) (j i:Nat) (u:Value),(w.setCell ⟨g,j,none⟩ u).cell? ⟨H,i,none⟩=w.cell? ⟨H,i,none⟩:=fun w j i u=>World.cell?_setCell_other _ _ _ _ (fun e=>hg (by injection e with e;exact e.symm));simp only [q];exact h
theorem keep2 {w:World} {H g:Nat} (hg:H≠g){x y z:Value} (h:w.cell? ⟨H,0,none⟩=some x∧w.cell? ⟨H,1,none⟩=some y∧w.cell? ⟨H,2,none⟩=some z)(a b:Value):
 ((w.setCell ⟨g,0,none⟩ a).setCell ⟨g,1,none⟩ b).cell? ⟨H,0,none⟩=some x∧((w.setCell ⟨g,0,none⟩ a).setCell ⟨g,1,none⟩ b).cell? ⟨H,1,none⟩=some y∧((w.setCell ⟨g,0,none⟩ a).setCell ⟨g,1,none⟩ b).cell? ⟨H,2,none⟩=some z:=by
 have q:∀(w:World) (j i:Nat) (u:Value),(w.setCell ⟨g,j,none⟩ u).cell? ⟨H,i,none⟩=w.cell? ⟨H,i,none⟩:=fun w j i u=>World.cell?_setCell_other _ _ _ _ (fun e=>hg (by injection e with e;exact e.symm));simp only [q];exact h
theorem Zql (t:List UInt8)(h1:t.length≤1000000000)(w:World):
 Calls Tryz.prog 65 #[.string (B t)] w fun e w'=>∃K,e= .returned (.pointer (some ⟨K,0,none⟩))∧InAt w' K ⟨t,0,0,0,0⟩∧Below w.heap.size w w'∧w.heap.size≤K∧K<w'.heap.size:=
 (ZkC t h1 w).mono fun _ _ ⟨a,b,c,d⟩=>⟨_,a,b,c,Nat.le_refl _,by omega⟩
theorem ZqS (file:List UInt8)(hl:file.length≤900000000)(h3:file.take 3=ZT)(w:World):
 Calls Tryz.prog 29 #[.string (B file)] w (Zfr w (ZbU file)):=by
 have hlen:3≤file.length:=by
  have:=congrArg List.length h3;rw [List.length_take,show ZT.length=3 from rfl] at this;omega
 obtain⟨hh,hhh⟩:∃h,h=Zcr ⟨file,0,0,0,0⟩:=⟨_,rfl⟩
 obtain⟨v,hv⟩:∃v:Nat,v=hh.1.1:=⟨_,rfl⟩
 obtain⟨rev,hrev⟩:∃x,x=hh.1.2.1:=⟨_,rfl⟩
 obtain⟨fl,hfl⟩:∃x,x=hh.1.2.2:=⟨_,rfl⟩
 obtain⟨n,hn⟩:∃n,n=hh.2.safe:=⟨_,rfl⟩
 obtain⟨b,hb⟩:∃b,b=n.2.take n.1:=⟨_,rfl⟩
 obtain⟨body,hbody⟩:∃body,body=if ZcU v fl then ZW false b.1 else b.1:=⟨_,rfl⟩
 obtain⟨l,hlf⟩:∃l,l=ZcK v (ZL fl) (ZcS v fl ⟨body,0,10,0,0⟩):=⟨_,rfl⟩
 obtain⟨r,hr⟩:∃r,r=if ZbX v fl then(((b.2.want Za1).2).want ((file.take 10).drop 3)).2 else b.2:=⟨_,rfl⟩
 have hR:ZbU file=if b.2.e≠0 then .error (b.2.e,b.2.a) else if l.2.e≠0 then .error (l.2.e,l.2.a) else if r.e≠0 then .error (r.e,r.a) else .ok (some ⟨v,rev,fl&&& ~~~0x40,l.1⟩,r.rest.1):=by
  subst hr hlf hbody hb hn hfl hrev hv hhh;unfold ZbU;rw [if_neg (by simpa using h3)]
 have hb10:b.2.e=0→10≤b.2.n∧b.2.t=file∧b.1.length≤file.length:=by
  intro h0;have k1:=InS.take_ok n.2 n.1 (by rw [←hb];exact h0);have k2:=InS.safe_ok hh.2 (by rw [←hn];exact k1.1);have k3:=Zs6 ⟨file,0,0,0,0⟩ (by rw [←hhh];exact k2.1);rw [←hb] at k1;rw [←hn] at k2;rw [←hhh] at k3;have ht:n.2.t=file:=by rw [k2.2.2,k3.2.2]
  refine⟨by have:=k3.2.1;simp only at this;omega,by rw [k1.2.2,ht],?_⟩;rw [←ht,hb];unfold InS.take;split
  · simp
  · split
    · simp
    · simp;omega
 generalize hP:Zfr w (ZbU file)=P at*;have hsz:=Zn file;have he:(B file).extract 0 3=B [73,68,51]:=by rw [Zf3];congr 1
 have hq:((B [73,68,51]).toList==[73,68,51])=true:=by rw [seqB];rfl
 have hq2:((B [73,68,51]).toList !=[73,68,51])=false:=by rw [bne,hq];rfl
 have hq3:(B [73,68,51]).toList=[73,68,51]:=ZiQ _;have hlen':¬(file.length:Int)<3:=by omega
 have hrd:=fun w=>Zql file (by omega) w;have hhd:∀K w,InAt w K ⟨file,0,0,0,0⟩→Calls Tryz.prog 81 #[.pointer (some ⟨K,0,none⟩)] w fun e w'=>e= .returned (.agg #[.int .i64 v,.int .u8 rev.toNat,.int .u8 fl.toNat])∧InAt w' K hh.2∧But K w.heap.size w w':=by
  intro K w h;have:=ZpA K _ w h;rw [←hhh] at this;rw [hv,hrev,hfl];exact this
 have hsf:=fun K w h=>Zgl K hh.2 w h;rw [←hn] at hsf;have hnl:=Zhd hh.2;rw [←hn] at hnl;have htk:=fun K w h=>Zdo K n.2 n.1 (by omega) (by omega) w h;rw [Int.toNat_natCast,←hb] at htk;unfold Zh at hsf htk;have hfa:=fun K w h=>Zcz K b.2 w h;have Hbody:=Lib.hid hbody;have Hlf:=Lib.hid hlf;have Hr:=Lib.hid hr;have HR:=Lib.hid hR;have Hb10:=Lib.hid hb10;clear hhh hv hrev hfl hn hb hbody hlf hr hR hb10 h3 hlen;generalize n.1=nn at*;by_cases hE:b.2.e=0
 · have hRR:=HR.out;rw [if_neg (by simpa using hE)] at hRR;obtain⟨hn10,htf,hbl⟩:=Hb10.out hE;have HRR1:=Lib.hid hRR;have Htf:=Lib.hid htf;have hbd:=fun w=>Z0 (b.2.e:Int) b.2.a (by omega) w;have hwh:=fun w=>ZkP (v:Int) rev fl w;rw [Int.toNat_natCast] at hwh;clear hRR hE htf;go_enter Tryz.func29,Tryz.ntmps29
   go_upto_if 39 with(first
    |(go_at_call 65;refine(hrd _).mono ?_;rintro e w1 ⟨K,rfl,h1,hb1,hK1,hK2⟩;have H1:=Lib.hid h1;have L1:=Lib.hid (ZeE hb1);simp only [World.size_alloc] at hK1;have RA:=Lib.hid (Bx.below ((Bx.new w zTag 36).alloc _) hb1);have RB:Hid (Bx w1 (w.heap.size+1) #[.int .i64 0,.int .i64 0] 39):=Lib.hid (Bx.below (by have:=Bx.new (w.alloc (.cells zTag 36)) #[.int .i64 0,.int .i64 0] 39;rw [World.size_alloc] at this;exact this) hb1);clear h1 hb1)
    |(go_at_call 81;refine(hhd _ _ H1.out).mono ?_;rintro e w2 ⟨rfl,h2,hb2⟩;have ST:Hid (TSt w (w2.alloc (.cells (three v rev fl) 27)) K w2.heap.size v rev fl hh.2):=Lib.hid ⟨(RA.out.but hb2 (by omega)).alloc _,(RB.out.but hb2 (by omega)).alloc _,Bx.new w2 _ _,h2.alloc _,(L1.out.trans ((hb2.mono L1.out.size).below (by omega))).alloc (by have:=L1.out.size;have:=hb2.size;omega) _,by omega,by have:=hb2.size;omega,by have:=hb2.size;omega⟩;clear h2 hb2;obtain⟨⟨d0,d1,d2⟩,⟨r0,r1,r2,r3⟩,⟨q0,q1⟩,⟨f0,f1,f2⟩,l1,l2⟩:=ST.out.cells)
    |(go_at_call 82;refine(hsf _ _ ST.out.inn).mono ?_;rintro e w3 ⟨rfl,h3,hb3⟩;have ST2:=Lib.hid (ST.out.butK h3 hb3);clear h3 hb3)
    |(go_at_call 72;refine(htk _ _ ST2.out.inn).mono ?_;rintro e w4 ⟨rfl,h4,hb4⟩;have ST3:=Lib.hid (ST2.out.butK h4 hb4);clear h4 hb4)
    |(go_at_call 68;refine(hfa _ _ ST3.out.inn).mono ?_;rintro e w5 ⟨rfl,hb5⟩;have ST4:=Lib.hid (ST3.out.below hb5);clear hb5)
    |(go_at_call 11;refine(hbd _).mono ?_;rintro e w6 ⟨rfl,hb6⟩;have ST5:=Lib.hid ((ST4.out.alloc _).below hb6);clear hb6 d0 d1 d2 r0 r1 r2 r3 q0 q1 f0 f1 f2 l1 l2;obtain⟨⟨d0,d1,d2⟩,⟨r0,r1,r2,r3⟩,⟨q0,q1⟩,⟨f0,f1,f2⟩,l1,l2⟩:=ST5.out.cells)
    |(go_at_call 41;refine(hwh _).mono ?_;rintro e w7 ⟨rfl,hb7⟩;have ST6:=Lib.hid (ST5.out.below hb7);clear hb7 d0 d1 d2 r0 r1 r2 r3 q0 q1 f0 f1 f2 l1 l2;obtain⟨⟨d0,d1,d2⟩,⟨r0,r1,r2,r3⟩,⟨q0,q1⟩,⟨f0,f1,f2⟩,l1,l2⟩:=ST6.out.cells))
   have hbody2:body.length≤900000000:=by
    rw [Hbody.out];split
    · have:=Zgy false b.1;omega
    · omega
   go_cut [7] (fun s7 wx=>s7= .string (B body)∧TSt w wx K w2.heap.size v rev fl b.2)
   case first=>
    have hdr:=fun w=>Zkc b.1 (by omega) w;cases hW:ZcU v fl with
    |true=>
     have hq9:=Hbody.out;rw [hW,if_pos rfl] at hq9;rw [←hq9] at hdr;clear hq9;go_wp2_with (go_at_call 83;refine(hdr _).mono ?_;rintro e w8 ⟨rfl,hb8⟩)
     go_meet
     exact⟨rfl,ST6.out.below hb8⟩
    |false=>
     have hq9:=Hbody.out;rw [hW,if_neg (by decide)] at hq9;have Hq9:=Lib.hid hq9;clear hq9;go_wp2_with fail
     go_meet
     exact⟨by rw [Hq9.out],ST6.out⟩
   obtain⟨rfl,hcut⟩:=hcut;have ST7:=Lib.hid hcut;have hKH:=ST7.out.hKH;have hHR:=ST7.out.hH;clear hcut d0 d1 d2 r0 r1 r2 r3 q0 q1 f0 f1 f2 l1 l2;obtain⟨⟨d0,d1,d2⟩,⟨r0,r1,r2,r3⟩,⟨q0,q1⟩,⟨f0,f1,f2⟩,l1,l2⟩:=ST7.out.cells;have hin:=fun w=>Zki body 10 (by decide) (by omega) w;rw [show(10:Int).toNat=10 from rfl] at hin;have hsk:∀K2 w,InAt w K2 ⟨body,0,10,0,0⟩→Calls Tryz.prog 84 #[.agg #[.int .i64 v,.int .u8 rev.toNat,.int .u8 fl.toNat],.pointer (some ⟨K2,0,none⟩)] w (Zgn K2 w (ZcS v fl ⟨body,0,10,0,0⟩)):=by
    intro K2 w h;have:=ZqG K2 _ (v:Int) rev fl w h
    rwa [Int.toNat_natCast] at this
   have hfs:∀K2 w,InAt w K2 (ZcS v fl ⟨body,0,10,0,0⟩)→Calls Tryz.prog 85 #[.agg #[.int .i64 v,.int .u8 rev.toNat,.int .u8 fl.toNat],.pointer (some ⟨K2,0,none⟩)] w (Zgd K2 w l):=by
    intro K2 w h;have:=Zpy K2 _ (v:Int) rev fl w h;rw [Int.toNat_natCast,←Hlf.out] at this;exact this
   unfold Zgn at hsk;unfold Zgd at hfs;have hfl2:=fun K2 w h=>Zcz K2 l.2 w h;generalize ZcS v fl ⟨body,0,10,0,0⟩=sk at*;by_cases hE2:l.2.e=0
   · have hRR:=HRR1.out;rw [if_neg (by simpa using hE2)] at hRR;have HRR2:=Lib.hid hRR;have hbd2:=fun w=>Z0 (l.2.e:Int) l.2.a (by omega) w;have hft:=fun w=>ZkN (v:Int) rev fl w;rw [Int.toNat_natCast] at hft;clear hRR hE2
     go_upto_if 57 with(first
      |(go_at_call 74;refine(hin _).mono ?_;rintro e w8 ⟨K2,rfl,hi8,hb8,hk8,hk9⟩;have STa:=Lib.hid (ST7.out.below hb8);have I8:=Lib.hid hi8;have hk10:w2.heap.size<K2:=(by omega);clear hi8 hb8 d0 d1 d2 r0 r1 r2 r3 q0 q1 f0 f1 f2 l1 l2;obtain⟨⟨d0,d1,d2⟩,⟨r0,r1,r2,r3⟩,⟨q0,q1⟩,⟨f0,f1,f2⟩,l1,l2⟩:=STa.out.cells)
      |(go_at_call 84;refine(hsk _ _ I8.out).mono ?_;rintro e w9 ⟨rfl,hi9,hb9⟩;have STb:=Lib.hid (STa.out.butO hb9 (by omega));have I9:=Lib.hid hi9;have hz9:=hb9.size;clear hi9 hb9 d0 d1 d2 r0 r1 r2 r3 q0 q1 f0 f1 f2 l1 l2;obtain⟨⟨d0,d1,d2⟩,⟨r0,r1,r2,r3⟩,⟨q0,q1⟩,⟨f0,f1,f2⟩,l1,l2⟩:=STb.out.cells)
      |(go_at_call 85;refine(hfs _ _ I9.out).mono ?_;rintro e w10 ⟨vl,rfl,hrw,hi10,hb10⟩;obtain⟨A9,c9,hvl9,hc9⟩:=hrw.len;subst hvl9;have STb2:=Lib.hid (STb.out.butO hb10 (by omega));have I10:=Lib.hid hi10;have RWb:=Lib.hid hrw;clear hi10 hb10 hrw d0 d1 d2 r0 r1 r2 r3 q0 q1 f0 f1 f2 l1 l2)
      |(go_at_call 68;refine(hfl2 _ _ I10.out).mono ?_;rintro e w11 ⟨rfl,hb11⟩;have STc:=Lib.hid (STb2.out.below hb11);have RWc:=Lib.hid (RWb.out.below hb11);clear hb11)
      |(go_at_call 11;refine(hbd2 _).mono ?_;rintro e w12 ⟨rfl,hb12⟩;have STd:=Lib.hid ((STc.out.alloc _).below hb12);have RWd:=Lib.hid ((RWc.out.below ((Below.refl _ _).alloc (Nat.le_refl _) _)).below hb12);clear hb12;obtain⟨⟨d0,d1,d2⟩,⟨r0,r1,r2,r3⟩,⟨q0,q1⟩,⟨f0,f1,f2⟩,l1,l2⟩:=STd.out.cells)
      |(go_at_call 21;refine(hft _).mono ?_;rintro e w13 ⟨rfl,hb13⟩;have STe:=Lib.hid (STd.out.below hb13);have RWe:=Lib.hid (RWd.out.below hb13);clear hb13 d0 d1 d2 r0 r1 r2 r3 q0 q1 f0 f1 f2 l1 l2;obtain⟨⟨d0,d1,d2⟩,⟨r0,r1,r2,r3⟩,⟨q0,q1⟩,⟨f0,f1,f2⟩,l1,l2⟩:=STe.out.cells))
     go_cut [] (fun wx=>TSt w wx K w2.heap.size v rev fl r∧Zg frV w9.heap.size wx (.slice A9 l.1.length c9) l.1)
     case first=>
      cases hF:ZbX v fl with
      |true=>
       have hq9:=Hr.out;rw [hF,if_pos rfl] at hq9;have hw0:=fun w h=>ZhW K b.2 Za1 (by decide) w h;have hw2:=fun w h=>ZhW K (b.2.want Za1).2 ((file.take 10).drop 3) (by simp;omega) w h;rw [←hq9] at hw2;have hex:(B file).extract 3 10=B ((file.take 10).drop 3):=by rw [Zf3]
       have hle:10≤file.length:=by have:=STe.out.inn.fits;rw [Htf.out] at this;omega
       unfold Zh at hw0 hw2;have hw1:∀w,InAt w K b.2→Calls Tryz.prog 66 #[.pointer (some ⟨K,0,none⟩),.string ⟨#[51,68,73]⟩] w fun e w'=>e= .returned (.bool (b.2.want Za1).1)∧InAt w' K (b.2.want Za1).2∧But K w.heap.size w w':=hw0;clear hq9 hw0;generalize (b.2.want Za1)=sw at*;generalize (file.take 10).drop 3=mid at*;go_wp2_with (first
        |(go_at_call 66;((with_reducible refine(hw1 _ STe.out.inn).mono ?_);rintro e w14 ⟨rfl,h14,hb14⟩;have STf:=Lib.hid (STe.out.butK h14 hb14);have RWf:=Lib.hid (RWe.out.but hb14 (by omega));clear h14 hb14))
        |(go_at_call 66;((with_reducible refine(hw2 _ STf.out.inn).mono ?_);rintro e w15 ⟨rfl,h15,hb15⟩;have STg:=Lib.hid (STf.out.butK h15 hb15);have RWg:=Lib.hid (RWf.out.but hb15 (by omega));clear h15 hb15)))
       go_meet
       exact⟨STg.out,RWg.out⟩
      |false=>
       have hq9:=Hr.out;rw [hF,if_neg (by decide)] at hq9;have Hq9:=Lib.hid hq9;clear hq9;go_wp2_with fail
       go_meet
       rw [Hq9.out];exact⟨STe.out,RWe.out⟩
     have STh:=Lib.hid hcut.1;have RWh:=Lib.hid hcut.2;clear hcut d0 d1 d2 r0 r1 r2 r3 q0 q1 f0 f1 f2 l1 l2;obtain⟨⟨d0,d1,d2⟩,⟨r0,r1,r2,r3⟩,⟨q0,q1⟩,⟨f0,f1,f2⟩,l1,l2⟩:=STh.out.cells;have hfa3:=fun w h=>Zcz K r w h;by_cases hE3:r.e=0
     · have hRR:=HRR2.out;rw [if_neg (by simpa using hE3)] at hRR;have HRR3:=Lib.hid hRR;have hbd3:=fun w=>Z0 (r.e:Int) r.a (by omega) w;have hrs:=fun w h=>Zfp K r w h;unfold Zh at hrs;obtain⟨x8,hx8⟩:∃x8,x8=fl&&& ~~~(64:UInt8):=⟨_,rfl⟩
       have han:=Zgr fl 64 64 rfl;rw [←hx8] at han;have Hx8:=Lib.hid hx8;clear hRR hE3 hx8;go_wp2_with (first
        |(go_at_call 68;refine(hfa3 _ STh.out.inn).mono ?_;rintro e w16 ⟨rfl,hb16⟩;have STi:=Lib.hid (STh.out.below hb16);have RWi:=Lib.hid (RWh.out.below hb16);clear hb16)
        |(go_at_call 11;refine(hbd3 _).mono ?_;rintro e w17 ⟨rfl,hb17⟩;have STj:=Lib.hid ((STi.out.alloc _).below hb17);have RWj:=Lib.hid ((RWi.out.below ((Below.refl _ _).alloc (Nat.le_refl _) _)).below hb17);clear hb17 d0 d1 d2 r0 r1 r2 r3 q0 q1 f0 f1 f2 l1 l2;obtain⟨⟨d0,d1,d2⟩,⟨r0,r1,r2,r3⟩,⟨q0,q1⟩,⟨f0,f1,f2⟩,l1,l2⟩:=STj.out.cells))
       have STk:=Lib.hid (STj.out.setFl x8);have RWk:=Lib.hid (RWj.out.set (g:=w2.heap.size) (by omega) 2 (.int .u8 x8.toNat));generalize w17.setCell ⟨w2.heap.size,2,none⟩ (.int .u8 x8.toNat)=wk at*;clear d0 d1 d2 r0 r1 r2 r3 q0 q1 f0 f1 f2 l1 l2;have hl1:=STk.out.hd.lt;go_region_held3 (fun w'=>w'.cell? ⟨w2.heap.size,0,none⟩=some (.int .i64 v)∧w'.cell? ⟨w2.heap.size,1,none⟩=some (.int .u8 rev.toNat)∧w'.cell? ⟨w2.heap.size,2,none⟩=some (.int .u8 x8.toNat))
        (first|with_reducible exact STk.out.drew.cells.1|with_reducible exact STl.out.cells.1|with_reducible exact keep4 (by omega) STl.out.cells.1 _ _ _ _|with_reducible exact keep2 (by omega) (keep4 (by omega) STl.out.cells.1 _ _ _ _) _ _)
        (first
        |(go_at_call 75;refine(hrs _ STk.out.drew.inn).mono ?_;rintro e w18 ⟨rfl,h18,hb18⟩;have STl:=Lib.hid (STk.out.drew.butK h18 hb18);have RWl:=Lib.hid ((RWk.out.below (Zck (Below.refl _ _))).but hb18 (by omega));clear h18 hb18;obtain⟨⟨d0,d1,d2⟩,⟨r0,r1,r2,r3⟩,⟨q0,q1⟩,⟨f0,f1,f2⟩,l1,l2⟩:=STl.out.cells))
       all_goals
        go_wp2_with fail
        have F:=STl.out.fin (.int .i64 v) (.int .u8 rev.toNat) (.int .u8 x8.toNat) (.slice A9 l.1.length c9) (.int .i64 0) (.int .i64 0);refine bodyPost_ret (ZfO rfl _ _ w.heap.size (w.heap.size+1) _ _ _ _ _ _ _ _ _ rfl rfl rfl F.1 F.2.1 Tryz.underlying36 rfl (by kernel_rfl) Tryz.underlying39 rfl (by kernel_rfl)) rfl ?_;rw [←hP,HRR3.out];exact⟨F.2.2,_,by rw [Hx8.out];rfl,(((((((RWl.out.set (g:=w.heap.size) (by omega) 0 _).set (g:=w.heap.size) (by omega) 1 _).set (g:=w.heap.size) (by omega) 2 _).set (g:=w.heap.size) (by omega) 3 _).set (g:=w.heap.size+1) (by omega) 0 _).set (g:=w.heap.size+1) (by omega) 1 _)).low (by omega)⟩
     · have hRR:=HRR2.out;rw [if_pos hE3] at hRR;have HRR:=Lib.hid hRR;have hbd3:=fun w=>ZaY (r.e:Int) r.a (by omega) w;have HE2:=Lib.hid hE3;clear hRR hE3;go_wp2_with (first
        |(go_at_call 68;refine(hfa3 _ STh.out.inn).mono ?_;rintro e w16 ⟨rfl,hb16⟩;have STi:=Lib.hid (STh.out.below hb16);clear hb16)
        |(go_at_call 11;refine(hbd3 _).mono ?_;rintro e w17 ⟨rfl,hb17⟩;have STj:=Lib.hid ((STi.out.alloc _).below hb17);have BX:=Lib.hid ((Bx.new w16 _ _).below hb17);clear hb17 d0 d1 d2 r0 r1 r2 r3 q0 q1 f0 f1 f2 l1 l2;obtain⟨⟨d0,d1,d2⟩,⟨r0,r1,r2,r3⟩,⟨q0,q1⟩,⟨f0,f1,f2⟩,l1,l2⟩:=STj.out.cells;have x0:=BX.out.cell 0;have x1:=BX.out.cell 1;have xl:=BX.out.lt;have hw5:=STi.out.r4.lt))
       go_region
       all_goals
        go_wp2_with fail
        have F:=STj.out.fin (.int .i64 0) (.int .u8 0) (.int .u8 0) (.slice none 0 0) (.int .i64 r.e) (.int .i64 r.a);refine bodyPost_ret (ZfO rfl _ _ w.heap.size (w.heap.size+1) _ _ _ _ _ _ _ _ _ rfl rfl rfl F.1.drew F.2.1.drew Tryz.underlying36 rfl (by kernel_rfl) Tryz.underlying39 rfl (by kernel_rfl)) rfl ?_;rw [←hP,HRR.out];exact⟨Zck F.2.2,rfl,HE2.out⟩
   · have hRR:=HRR1.out;rw [if_pos hE2] at hRR;have HRR:=Lib.hid hRR;have hbd2:=fun w=>ZaY (l.2.e:Int) l.2.a (by omega) w;have HE2:=Lib.hid hE2;clear hRR hE2;go_wp2_with (first
      |(go_at_call 74;refine(hin _).mono ?_;rintro e w8 ⟨K2,rfl,hi8,hb8,hk8,hk9⟩;have STa:=Lib.hid (ST7.out.below hb8);have I8:=Lib.hid hi8;have hk10:w2.heap.size<K2:=(by omega);clear hi8 hb8 d0 d1 d2 r0 r1 r2 r3 q0 q1 f0 f1 f2 l1 l2;obtain⟨⟨d0,d1,d2⟩,⟨r0,r1,r2,r3⟩,⟨q0,q1⟩,⟨f0,f1,f2⟩,l1,l2⟩:=STa.out.cells)
      |(go_at_call 84;refine(hsk _ _ I8.out).mono ?_;rintro e w9 ⟨rfl,hi9,hb9⟩;have STb:=Lib.hid (STa.out.butO hb9 (by omega));have I9:=Lib.hid hi9;have hz9:=hb9.size;clear hi9 hb9 d0 d1 d2 r0 r1 r2 r3 q0 q1 f0 f1 f2 l1 l2;obtain⟨⟨d0,d1,d2⟩,⟨r0,r1,r2,r3⟩,⟨q0,q1⟩,⟨f0,f1,f2⟩,l1,l2⟩:=STb.out.cells)
      |(go_at_call 85;refine(hfs _ _ I9.out).mono ?_;rintro e w10 ⟨vl,rfl,hrw,hi10,hb10⟩;obtain⟨A9,c9,hvl9,hc9⟩:=hrw.len;subst hvl9;have STb2:=Lib.hid (STb.out.butO hb10 (by omega));have I10:=Lib.hid hi10;have RWb:=Lib.hid hrw;clear hi10 hb10 hrw d0 d1 d2 r0 r1 r2 r3 q0 q1 f0 f1 f2 l1 l2)
      |(go_at_call 68;refine(hfl2 _ _ I10.out).mono ?_;rintro e w11 ⟨rfl,hb11⟩;have STc:=Lib.hid (STb2.out.below hb11);have RWc:=Lib.hid (RWb.out.below hb11);clear hb11)
      |(go_at_call 11;refine(hbd2 _).mono ?_;rintro e w12 ⟨rfl,hb12⟩;have STd:=Lib.hid ((STc.out.alloc _).below hb12);have BX:=Lib.hid ((Bx.new w11 _ _).below hb12);clear hb12;obtain⟨⟨d0,d1,d2⟩,⟨r0,r1,r2,r3⟩,⟨q0,q1⟩,⟨f0,f1,f2⟩,l1,l2⟩:=STd.out.cells;have x0:=BX.out.cell 0;have x1:=BX.out.cell 1;have xl:=BX.out.lt;have hw5:=STc.out.r4.lt))
     go_region
     all_goals
      go_wp2_with fail
      have F:=STd.out.fin (.int .i64 0) (.int .u8 0) (.int .u8 0) (.slice none 0 0) (.int .i64 l.2.e) (.int .i64 l.2.a);refine bodyPost_ret (ZfO rfl _ _ w.heap.size (w.heap.size+1) _ _ _ _ _ _ _ _ _ rfl rfl rfl F.1.drew F.2.1.drew Tryz.underlying36 rfl (by kernel_rfl) Tryz.underlying39 rfl (by kernel_rfl)) rfl ?_;rw [←hP,HRR.out];exact⟨Zck F.2.2,rfl,HE2.out⟩
 · have hRR:=HR.out;rw [if_pos hE] at hRR;have HRR:=Lib.hid hRR;have hbd:=fun w=>ZaY (b.2.e:Int) b.2.a (by omega) w;have HE:=Lib.hid hE;clear hRR hE;go_enter Tryz.func29,Tryz.ntmps29
   go_wp2_with (first
    |(go_at_call 65;refine(hrd _).mono ?_;rintro e w1 ⟨K,rfl,h1,hb1,hK1,hK2⟩;have H1:=Lib.hid h1;have L1:=Lib.hid (ZeE hb1);simp only [World.size_alloc] at hK1;have RA:=Lib.hid (Bx.below ((Bx.new w zTag 36).alloc _) hb1);have RB:Hid (Bx w1 (w.heap.size+1) #[.int .i64 0,.int .i64 0] 39):=Lib.hid (Bx.below (by have:=Bx.new (w.alloc (.cells zTag 36)) #[.int .i64 0,.int .i64 0] 39;rw [World.size_alloc] at this;exact this) hb1);clear h1 hb1)
    |(go_at_call 81;refine(hhd _ _ H1.out).mono ?_;rintro e w2 ⟨rfl,h2,hb2⟩;have ST:Hid (TSt w (w2.alloc (.cells (three v rev fl) 27)) K w2.heap.size v rev fl hh.2):=Lib.hid ⟨(RA.out.but hb2 (by omega)).alloc _,(RB.out.but hb2 (by omega)).alloc _,Bx.new w2 _ _,h2.alloc _,(L1.out.trans ((hb2.mono L1.out.size).below (by omega))).alloc (by have:=L1.out.size;have:=hb2.size;omega) _,by omega,by have:=hb2.size;omega,by have:=hb2.size;omega⟩;clear h2 hb2;obtain⟨⟨d0,d1,d2⟩,⟨r0,r1,r2,r3⟩,⟨q0,q1⟩,⟨f0,f1,f2⟩,l1,l2⟩:=ST.out.cells)
    |(go_at_call 82;refine(hsf _ _ ST.out.inn).mono ?_;rintro e w3 ⟨rfl,h3,hb3⟩;have ST2:=Lib.hid (ST.out.butK h3 hb3);clear h3 hb3)
    |(go_at_call 72;refine(htk _ _ ST2.out.inn).mono ?_;rintro e w4 ⟨rfl,h4,hb4⟩;have ST3:=Lib.hid (ST2.out.butK h4 hb4);clear h4 hb4)
    |(go_at_call 68;refine(hfa _ _ ST3.out.inn).mono ?_;rintro e w5 ⟨rfl,hb5⟩;have ST4:=Lib.hid (ST3.out.below hb5);clear hb5)
    |(go_at_call 11;refine(hbd _).mono ?_;rintro e w6 ⟨rfl,hb6⟩;have ST5:=Lib.hid ((ST4.out.alloc _).below hb6);have BX:=Lib.hid ((Bx.new w5 _ _).below hb6);clear hb6 d0 d1 d2 r0 r1 r2 r3 q0 q1 f0 f1 f2 l1 l2;obtain⟨⟨d0,d1,d2⟩,⟨r0,r1,r2,r3⟩,⟨q0,q1⟩,⟨f0,f1,f2⟩,l1,l2⟩:=ST5.out.cells;have x0:=BX.out.cell 0;have x1:=BX.out.cell 1;have xl:=BX.out.lt;have hw5:=ST4.out.r4.lt))
   go_region
   all_goals
    go_wp2_with fail
    have F:=ST5.out.fin (.int .i64 0) (.int .u8 0) (.int .u8 0) (.slice none 0 0) (.int .i64 b.2.e) (.int .i64 b.2.a);refine bodyPost_ret (ZfO rfl _ _ w.heap.size (w.heap.size+1) _ _ _ _ _ _ _ _ _ rfl rfl rfl F.1.drew F.2.1.drew Tryz.underlying36 rfl (by kernel_rfl) Tryz.underlying39 rfl (by kernel_rfl)) rfl ?_;rw [←hP,HRR.out];exact⟨Zck F.2.2,rfl,HE.out⟩
theorem ZqQ (file:List UInt8)(hl:file.length≤900000000)(w:World):
 Calls Tryz.prog 29 #[.string (B file)] w (Zfr w (ZbU file)):=by
 by_cases h3:file.take 3=ZT
 · exact ZqS file hl h3 w
 · exact ZqR file hl h3 w
end Go.Proofs.YtlhllehffkoloaaGreatDoor
