/- Lemmas for a statement on the tops; conditions: as each says. -/
import Derived.Test.YtlfinljfghhpdaaGreatDoorM35
set_option linter.unusedVariables false
set_option linter.unusedSimpArgs false
set_option maxRecDepth 100000
set_option maxHeartbeats 2000000
namespace Go.Proofs.YtlfinljfghhpdaaGreatDoor
open Go Go.RowKit
def Ze5 (c:Nat)(l:List Int)(w:World)(e:Ending)(w':World):Prop:=Below w.heap.size w w'∧∃(bs:List UInt8) (n:Nat),e= .returned (.tuple #[.string (B bs),.int .i64 (n:Nat)])∧(n=0∨(1≤n∧n≤2∧n≤l.length∧bs.length≤2∧Chunk c bs (l.take n)))
theorem Zt8 {x:Int}:strOfNums [x]=B [UInt8.ofNat x.toNat]:=rfl
theorem Zo7 (c:Nat)(hc:4≤c∧c≤6)(A:Option Addr)(cap:Nat)(l:List Int)(h0:0<l.length)(hl:l.length≤2000000)(hs:∀p∈l,Ze p=true)(w:World)(hn:ZA w w.heap.size .i32 A l):
 Calls Tryz.prog 14 #[.int .i64 (c:Nat),.slice A l.length cap] w (Ze5 c l w):=by
 obtain⟨ad,rfl,hab,hcell⟩:=hn.at_ (i:=0) h0;have hrc:=fun(w':World) (hb:Below w.heap.size w w')=>Zo1 (some ad) cap l w' ((hn.below hb).more hb.size) hl;obtain⟨x,hx⟩:∃x,l.getD 0 0=x:=⟨_,rfl⟩
 have hxl:l.take 1=[x]:=by
  match l,h0 with
  |y::r,_=>simpa using hx
 have hxs:Ze x=true:=by
  match l,h0 with
  |y::r,_=>
   have:y=x:=by simpa using hx
   subst this;exact hs y (List.mem_cons_self ..)
 rw [hx,Addr.add_zero'] at hcell;have HP:Hid (∀(bs:List UInt8) (n:Nat) w',Below w.heap.size w w'→(n=0∨(1≤n∧n≤2∧n≤l.length∧bs.length≤2∧Chunk c bs (l.take n)))→Ze5 c l w (.returned (.tuple #[.string (B bs),.int .i64 (n:Nat)])) w'):=Lib.hid fun bs n w' h1 h2=>⟨h1,bs,n,rfl,h2⟩
 generalize Ze5 c l w=P at*;have hsc:=Z1.1 hxs;have HX:=Lib.hid hxs;have HXL:=Lib.hid hxl;have H0:=Lib.hid h0;clear hn hs hx hxl hxs;by_cases h8:x<128
 · have hcv:=Zg6 (P:=Tryz.prog) 79 9 5 Tryz.underlying79 Tryz.underlying5 Tryz.underlying9 w x 1;rw [Zt8] at hcv;clear hrc;go_enter Tryz.func14,Tryz.ntmps14
   go_wp2
   refine HP.out _ 1 _ ((Below.refl _ w).alloc (Nat.le_refl _) _) (.inr ⟨by omega,by omega,H0.out,by simp,?_⟩);rw [HXL.out];have e:((UInt8.ofNat x.toNat).toNat:Int)=x:=by rw [UInt8.toNat_ofNat'];omega
   have:=Zkh c (UInt8.ofNat x.toNat) (by omega);rw [e] at this;exact this
 by_cases h6:c=6
 · subst h6;rcases ZqQ l with hcd|⟨n,m,hcd,hn1,hn2,hm1,hm2,hml,hch⟩
   · rw [hcd] at hrc;have hc9:=fun w=>ZgF (-1) (by decide) w;go_enter Tryz.func14,Tryz.ntmps14
     go_wp2_with (first
      |(go_at_call 25;refine(hrc _ (Below.refl _ _)).mono ?_;clear hrc;rintro e w1 ⟨rfl,hb1⟩)
      |(go_at_call 26;refine(hc9 _).mono ?_;clear hc9;rintro e w2 ⟨rfl,rfl⟩))
     exact HP.out [] 0 _ hb1 (.inl rfl)
   · rw [hcd] at hrc;have hc9:=fun w=>ZgG n hn2 w;have HC:=Lib.hid hch;clear hch hcd;go_enter Tryz.func14,Tryz.ntmps14
     go_wp2_with (first
      |(go_at_call 25;refine(hrc _ (Below.refl _ _)).mono ?_;clear hrc;rintro e w1 ⟨rfl,hb1⟩)
      |(go_at_call 26;refine(hc9 _).mono ?_;clear hc9;rintro e w2 ⟨rfl,hb2⟩))
     exact HP.out (ZF n) m _ (hb1.trans (hb2.mono hb1.size)) (.inr ⟨hm1,hm2,hml,by simp [ZF],HC.out⟩)
 have k6:((c:Int)==6)=false:=by rw [beq_eq_false_iff_ne];omega
 clear hrc;by_cases h5:c=5
 · subst h5;have hj:=fun w=>Zo0 x w;clear k6 h6;have hneg:=fun w=>ZgF (-1) (by decide) w;have hpos:=fun(n:Nat) (hn:n<65536) w=>ZgG n hn w;go_enter Tryz.func14,Tryz.ntmps14
   go_upto_region 8 with fail
   go_wp2_with (go_at_call 27;refine(hj _).mono ?_;clear hj;rintro e w1 ⟨z,rfl,hz,hb1⟩;rcases hz with rfl|⟨n,rfl,hz1,hz2,hz3⟩)
   · go_wp2_with (go_at_call 26;refine(hneg _).mono ?_;clear hneg;rintro e w2 ⟨rfl,rfl⟩)
     exact HP.out [] 0 _ hb1 (.inl rfl)
   · have hpn:=hpos n hz2;have hne:=Zdh (l:=ZF n) (by simp [ZF]);have HZ:=Lib.hid hz3;have HZ1:=Lib.hid hz1;have HZ2:=Lib.hid hz2;clear hz1 hz2 hz3 hpos hneg;go_wp2_with (go_at_call 26;refine(hpn _).mono ?_;clear hpn;rintro e w2 ⟨rfl,hb2⟩)
     exact HP.out (ZF n) 1 _ (hb1.trans (hb2.mono hb1.size)) (.inr ⟨by omega,by omega,H0.out,by simp [ZF],by rw [HXL.out];exact ZqI HZ2.out HZ1.out HZ.out (by omega)⟩)
 have k5:((c:Int)==5)=false:=by rw [beq_eq_false_iff_ne];omega
 obtain rfl:c=4:=by omega
 clear h5 h6 k5 k6;by_cases hsy:44032≤x∧x≤55203
 · obtain⟨n,hn⟩:∃n:Nat,x=44032+(n:Int):=⟨(x - 44032).toNat,by omega⟩
   subst hn;have hnl:n<11172:=by omega
   have hsl:=fun w=>Zpk n hnl w;have hne:=Zdh (l:=ZF (ZaA (44032+n)).toNat) (by simp [ZF]);have HCH:=Lib.hid (ZqJ hnl);obtain⟨g1,g2⟩:=hsy;clear hnl;have HL:Hid ((ZF (ZaA (44032+n)).toNat).length≤2):=Lib.hid (by simp [ZF]);generalize ZF (ZaA (44032+n)).toNat=cd at*;go_enter Tryz.func14,Tryz.ntmps14
   go_wp2_with (go_at_call 28;refine(hsl _).mono ?_;clear hsl;rintro e w1 ⟨rfl,hb1⟩)
   exact HP.out cd 1 _ hb1 (.inr ⟨by omega,by omega,H0.out,HL.out,by rw [HXL.out];exact HCH.out⟩)
 · have hrc:=fun w=>Zpu x w;unfold ZgK at hrc;have hneg:=fun w=>ZgF (-1) (by decide) w;have hpos:=fun(n:Nat) (hn:n<65536) w=>ZgG n hn w;by_cases hx1:44032≤x
   · have hx2:¬x≤55203:=by omega
     clear hsy;go_enter Tryz.func14,Tryz.ntmps14
     go_wp2_with (go_at_call 29;refine(hrc _).mono ?_;clear hrc;rintro e w1 ⟨z,rfl,hz,hb1⟩;rcases Zkj hz HX.out (by omega) with rfl|⟨n,rfl,hz1,hz2,hz3⟩)
     · clear hz;go_wp2_with (go_at_call 26;refine(hneg _).mono ?_;clear hneg;rintro e w2 ⟨rfl,rfl⟩)
       exact HP.out [] 0 _ hb1 (.inl rfl)
     · have hpn:=hpos n hz2;have hne:=Zdh (l:=ZF n) (by simp [ZF]);have HZ:=Lib.hid hz3;clear hz hz1 hz2 hz3 hpos hneg;go_wp2_with (go_at_call 26;refine(hpn _).mono ?_;clear hpn;rintro e w2 ⟨rfl,hb2⟩)
       exact HP.out (ZF n) 1 _ (hb1.trans (hb2.mono hb1.size)) (.inr ⟨by omega,by omega,H0.out,by simp [ZF],by rw [HXL.out];exact HZ.out⟩)
   · skip
     clear hsy;go_enter Tryz.func14,Tryz.ntmps14
     go_wp2_with (go_at_call 29;refine(hrc _).mono ?_;clear hrc;rintro e w1 ⟨z,rfl,hz,hb1⟩;rcases Zkj hz HX.out (by omega) with rfl|⟨n,rfl,hz1,hz2,hz3⟩)
     · clear hz;go_wp2_with (go_at_call 26;refine(hneg _).mono ?_;clear hneg;rintro e w2 ⟨rfl,rfl⟩)
       exact HP.out [] 0 _ hb1 (.inl rfl)
     · have hpn:=hpos n hz2;have hne:=Zdh (l:=ZF n) (by simp [ZF]);have HZ:=Lib.hid hz3;clear hz hz1 hz2 hz3 hpos hneg;go_wp2_with (go_at_call 26;refine(hpn _).mono ?_;clear hpn;rintro e w2 ⟨rfl,hb2⟩)
       exact HP.out (ZF n) 1 _ (hb1.trans (hb2.mono hb1.size)) (.inr ⟨by omega,by omega,H0.out,by simp [ZF],by rw [HXL.out];exact HZ.out⟩)
def Zcs (c:Nat)(t:List UInt8)(w:World)(e:Ending)(w':World):Prop:=Below w.heap.size w w'∧∃(s:List UInt8) (code at_:Int),e= .returned (.tuple #[.string (B s),.int .i64 code,.int .i64 at_])∧s.length≤2*t.length∧(code=0→∃ps,Good (B t) ps∧ZaD c s ps)
theorem ZkI (f:Int→Option Nat):∀(ps:List Int) (i:Nat) (bs:List UInt8),ecF f ps i= .inl bs→bs.length=ps.length
 |[],i,bs,h=>by unfold ecF at h;injection h with h;subst h;rfl
 |p::ps,i,bs,h=>by
  unfold ecF at h;split at h
  · cases h
  · split at h
    · next b hb=>injection h with h;subst h;simp [ZkI f ps _ _ hb]
    · cases h
theorem ZA.sub_ {w:World} {B0:Nat} {ad:Addr} {l:List Int} (h:ZA w B0 .i32 (some ad) l)(i n:Nat):ZA w B0 .i32 (some (ad.add i)) ((l.drop i).take n):=by
 refine⟨by simp,fun hpos=> ?_⟩;have hlt:i<l.length:=by
  simp only [List.length_take,List.length_drop] at hpos;omega
 obtain⟨ad2,hA,hb,hc⟩:=h.2 (by omega);obtain rfl:ad=ad2:=Option.some.inj hA;refine⟨_,rfl,by rw [ZaE];exact hb,fun j u hu=> ?_⟩;have hadd:(ad.add i).add j=ad.add (i+j):=by
  unfold Addr.add;by_cases h1:i=0<;>by_cases h2:j=0<;>simp [h1,h2,Nat.add_assoc]
 rw [hadd];refine hc _ _ ?_;rw [←hu];simp only [List.map_take,List.map_drop,List.getElem?_take,List.getElem?_drop];have hj:j<n:=by
  have:=(List.getElem?_eq_some_iff.1 hu).1;simp only [List.length_map,List.length_take,List.length_drop] at this;omega
 rw [if_pos hj]
def EnRel (c:Nat)(ps:List Int)(w:World)(v11 v12 v13:Value)(wr:World):Prop:=∃(k:Nat) (bs:List UInt8),k≤ps.length∧v13= .int .i64 k∧v11= .string (B bs)∧v12= .int .i64 ((Zb (ps.take k)).length:Nat)∧Hid (bs.length≤2*k)∧Hid (Chunk c bs (ps.take k))∧Hid (Below w.heap.size w wr)
theorem Zo4 (c:Nat)(hc:4≤c∧c≤6)(t:List UInt8)(ht:t.length≤1048576)(ps:List Int)(hg:Good (B t) ps)(w:World):Calls Tryz.prog 5 #[.int .i64 (c:Nat),.string (B t)] w (Zcs c t w):=by
 have hsz:=Zy t;have hpt:=fun w=>ZgJ (B t) ps hg (by omega) w;have hpl:ps.length≤t.length:=by have:=hg.len;omega
 have hps:=hg.2;have HP:Hid (∀(s:List UInt8) (code a:Int) w',Below w.heap.size w w'→s.length≤2*t.length→(code=0→Chunk c s ps)→Zcs c t w (.returned (.tuple #[.string (B s),.int .i64 code,.int .i64 a])) w'):=Lib.hid fun s code a w' h1 h2 h3=>⟨h1,s,code,a,rfl,h2,fun h=>⟨ps,hg,by unfold ZaD;rw [if_neg (by omega)];exact⟨hc.2,h3 h⟩⟩⟩
 generalize Zcs c t w=P at*;have HPS:=Lib.hid hps;have hc3:¬(c:Int)≤3:=by omega
 have hc8:¬8≤(c:Int):=by omega
 have hc7:((c:Int)==7)=false:=by rw [beq_eq_false_iff_ne];omega
 have hc0:0≤(c:Int):=by omega
 have hc9:¬9<(c:Int):=by omega
 have HC:=Lib.hid hc;clear hg hps;go_enter Tryz.func5,Tryz.ntmps5
 go_wp2_with (go_at_call 6;refine(hpt _).mono ?_;clear hpt;rintro e w1 ⟨A,cap,rfl,hcap,hnA,hb1⟩;have HN:=Lib.hid hnA;have HB:=Lib.hid hb1;clear hnA hb1)
 go_loopw [11,12,13] (fun v11 v12 v13 wr=>EnRel c ps w1 v11 v12 v13 wr) (fun _ _ i _=>ps.length - (intOf i).toNat)
 case atStart=>exact⟨0,[],by omega,rfl,rfl,rfl,Lib.hid (by simp),Lib.hid (Zki c),Lib.hid (Below.refl _ _)⟩
 case round=>
  obtain⟨k,bs,hk,rfl,rfl,rfl,hbs,hch,hb⟩:=hrel;by_cases hlt:k<ps.length
  · obtain⟨ad,hA,had,hcell⟩:=(HN.out.below hb.out).at_ hlt;subst hA;have hnr:=HN.out.below hb.out;have hnd:ZA wr wr.heap.size .i32 (some (ad.add k)) (ps.drop k):=by
     have:=(hnr.more hb.out.size).sub_ k ps.length
     rwa [List.take_of_length_le (by rw [List.length_drop];omega)] at this
    have hfi:=Zo7 c HC.out (some (ad.add k)) (cap - k) (ps.drop k) (by rw [List.length_drop];omega) (by rw [List.length_drop];omega) (fun p hp=>HPS.out p (List.mem_of_mem_drop hp)) wr hnd;rw [List.length_drop] at hfi;unfold Ze5 at hfi;have hcapk:ps.length≤cap:=hcap;have HNR:=Lib.hid hnr;clear hnr hnd hcell;go_upto_region 20 with(go_at_call 14;refine hfi.mono ?_;clear hfi;rintro e w2 ⟨hb2,bs2,n,rfl,hcs⟩)
    have HB2:=Lib.hid (hb.out.trans (hb2.mono hb.out.size));rcases hcs with rfl|⟨hn1,hn2,hn3,hl2,hch2⟩
    · go_wp2
      go_ret3
      show P (.returned (.tuple #[.string (B []),.int .i64 6,.int .i64 ((Zb (ps.take k)).length:Nat)])) w2
      exact HP.out [] 6 _ _ (HB.out.trans (HB2.out.mono HB.out.size)) (by simp) (fun h=>absurd h (by decide))
    · have hn0:((n:Int)==0)=false:=by rw [beq_eq_false_iff_ne];omega
      have hcat:B bs++B bs2=B (bs++bs2):=ZhU bs bs2;rw [List.length_drop] at hn3;have hbl:=hbs.out;have hs1:=Zy bs;have hs2:=Zy bs2;have HCH2:=Lib.hid hch2;clear hch2;go_upto_region 23 with fail
      have hln:((ps.drop k).take n).length=n:=by rw [List.length_take,List.length_drop];omega
      have hnt:=((HNR.out.more hb.out.size).below hb2).sub_ k n;have htx:=Zpm (some (ad.add k)) (cap - k) ((ps.drop k).take n) w2 hnt hb2.size (fun p hp=>HPS.out p (List.mem_of_mem_drop (List.mem_of_mem_take hp))) (by omega);rw [hln] at htx;have hadd:ps.take (k+n)=ps.take k++(ps.drop k).take n:=List.take_add ..;have htl:(Zb (ps.take (k+n))).length=(Zb (ps.take k)).length+(Zb ((ps.drop k).take n)).length:=by rw [hadd,ZcK,List.length_append]
      have hb1:=(Zah (ps.take k)).2;have hb4:=(Zah ((ps.drop k).take n)).2;rw [List.length_take] at hb1;rw [hln] at hb4;have hb5:(Zb (ps.take k)).length≤8000000:=by omega
      have hb6:(Zb ((ps.drop k).take n)).length≤8:=by omega
      have HADD:=Lib.hid hadd;have HTL:=Lib.hid htl;have hs3:(⟨(Zb ((ps.drop k).take n)).toArray⟩:ByteArray).size=(Zb ((ps.drop k).take n)).length:=rfl;clear hnt hadd htl hb1 hb4 hln;go_wp2_with (go_at_call 15;refine htx.mono ?_;clear htx;rintro e w3 ⟨rfl,hb3⟩)
      go_roundw
      case rel=>exact⟨k+n,bs++bs2,by omega,by go_num,rfl,by rw [HTL.out];go_num,Lib.hid (by rw [List.length_append];omega),Lib.hid (by rw [HADD.out];exact hch.out.app HCH2.out),Lib.hid (HB2.out.trans (hb3.mono HB2.out.size))⟩
      case measure=>simp [intOf];omega
  · obtain rfl:k=ps.length:=by omega
    have hce:Chunk c bs ps:=by have:=hch.out;rwa [List.take_length] at this
    have HCE:=Lib.hid hce;clear hce;go_wp2
    go_ret3
    exact HP.out bs 0 0 _ (HB.out.trans (hb.out.mono HB.out.size)) (by have:=hbs.out;omega) (fun _=>HCE.out)
theorem Zo3 (c:Nat)(hc:c≤3)(t:List UInt8)(ht:t.length≤1048576)(ps:List Int)(hg:Good (B t) ps)(w:World):Calls Tryz.prog 5 #[.int .i64 (c:Nat),.string (B t)] w (Zcs c t w):=by
 have hsz:=Zy t;have hpt:=fun w=>ZgJ (B t) ps hg (by omega) w;have hpl:ps.length≤t.length:=by have:=hg.len;omega
 have hps:=hg.2;have HP:Hid (∀(s:List UInt8) (code a:Int) w',Below w.heap.size w w'→s.length≤2*t.length→(code=0→s.map (fun x=>ZJ c x.toNat)=ps)→Zcs c t w (.returned (.tuple #[.string (B s),.int .i64 code,.int .i64 a])) w'):=Lib.hid fun s code a w' h1 h2 h3=>⟨h1,s,code,a,rfl,h2,fun h=>⟨ps,hg,by unfold ZaD;rw [if_pos hc];exact h3 h⟩⟩
 have henc:=fun A cap w1 (hn:ZA w1 w1.heap.size .i32 A ps)=>Zo5 c A cap ps hps (by omega) w1 hn;unfold Zfc at henc;generalize Zcs c t w=P at*;have hc3:(c:Int)≤3:=by omega
 have hc0:0≤(c:Int):=by omega
 have hc9:¬9<(c:Int):=by omega
 clear hg hps;cases he:ecF (Zl (Zi c)) ps 0 with
 |inr j=>
  rw [he] at henc;unfold Zfd at henc;clear he;go_enter Tryz.func5,Tryz.ntmps5
  go_wp2_with (first
   |(go_at_call 6;refine(hpt _).mono ?_;clear hpt;rintro e w1 ⟨A,cap,rfl,hcap,hnA,hb1⟩;have HN:=Lib.hid hnA;have HB:=Lib.hid hb1;clear hnA hb1)
   |(go_at_call 12;refine(henc _ _ _ HN.out).mono ?_;clear henc;rintro e w2 ⟨rfl,hb2⟩))
  go_ret3
  show P (.returned (.tuple #[.string (B []),.int .i64 6,.int .i64 (j:Int)])) w2
  exact HP.out [] 6 _ _ (HB.out.trans (hb2.mono HB.out.size)) (by simp) (fun h=>absurd h (by decide))
 |inl bs=>
  rw [he] at henc;unfold Zfd at henc;have hlb:=ZkI _ _ _ _ he;have hed:=ec_dc c ps 0 bs he;have HED:=Lib.hid hed;clear he hed;go_enter Tryz.func5,Tryz.ntmps5
  go_wp2_with (first
   |(go_at_call 6;refine(hpt _).mono ?_;clear hpt;rintro e w1 ⟨A,cap,rfl,hcap,hnA,hb1⟩;have HN:=Lib.hid hnA;have HB:=Lib.hid hb1;clear hnA hb1)
   |(go_at_call 12;refine(henc _ _ _ HN.out).mono ?_;clear henc;rintro e w2 ⟨rfl,hb2⟩))
  go_ret3
  exact HP.out bs 0 0 _ (HB.out.trans (hb2.mono HB.out.size)) (by omega) (fun _=>HED.out)
theorem Zo2 (c:Nat)(hc:c≤6)(t:List UInt8)(ht:t.length≤1048576)(w:World):Calls Tryz.prog 5 #[.int .i64 (c:Nat),.string (B t)] w (Zcs c t w):=by
 rcases Zc9 t with⟨ps,hg,_⟩|⟨n,hbad,_⟩
 · by_cases h3:c≤3
   · exact Zo3 c h3 t ht ps hg w
   · exact Zo4 c ⟨by omega,hc⟩ t ht ps hg w
 · have hsz:=Zy t;have hpt:=fun w=>ZjE (B t) n hbad (by omega) w;have HP:Hid (∀(s:List UInt8) (code a:Int) w',Below w.heap.size w w'→s.length≤2*t.length→code≠0→Zcs c t w (.returned (.tuple #[.string (B s),.int .i64 code,.int .i64 a])) w'):=Lib.hid fun s code a w' h1 h2 h3=>⟨h1,s,code,a,rfl,h2,fun h=>absurd h h3⟩
   generalize Zcs c t w=P at*;have hc0:0≤(c:Int):=by omega
   have hc9:¬9<(c:Int):=by omega
   clear hbad;go_enter Tryz.func5,Tryz.ntmps5
   go_wp2_with (go_at_call 6;refine(hpt _).mono ?_;clear hpt;rintro e w1 ⟨rfl,hb1⟩)
   go_ret3
   show P (.returned (.tuple #[.string (B []),.int .i64 2,.int .i64 (n:Int)])) w1
   exact HP.out [] 2 _ _ hb1 (by simp) (by decide)
def Zjq (c:Nat)(w:World)(e:Ending)(w':World):Prop:=Below w.heap.size w w'∧∃(K n cap:Nat),e= .returned (.slice (some ⟨K,0,none⟩) n cap)∧0<n∧w'.cell? ⟨K,0,none⟩=some (.string (B (nmC c)))
theorem ZqH (w:World)(x:Value)(l:List Value)(T:TypeId):(w.alloc (.cells (x::l).toArray T)).cell? ⟨w.heap.size,0,none⟩=some x:=(Bx.new w (x::l).toArray T).cell 0
theorem Zpa (c:Nat)(hc:c≤6)(w:World):Calls Tryz.prog 8 #[.int .i64 (c:Nat)] w (Zjq c w):=by
 have h7:c=0∨c=1∨c=2∨c=3∨c=4∨c=5∨c=6:=by omega
 rcases h7 with rfl|rfl|rfl|rfl|rfl|rfl|rfl
 all_goals
  go_enter Tryz.func8,Tryz.ntmps8
  go_wp2
  go_ret
  exact⟨(Below.refl _ w).alloc (Nat.le_refl _) _,w.heap.size,_,_,rfl,by decide,ZqH w _ _ _⟩
theorem Zto {α:Type} {f:α→List Value} {w:World} {v:Value} (h:ZB f w v []):v= .slice none 0 0:=by
 rcases h with⟨_,h⟩|⟨_,_,h,_⟩
 · exact h
 · exact absurd rfl h
theorem Zih {α:Type} {f:α→List Value} {w:World} {v:Value} {x:α} {l:List α} (h:ZB f w v (x::l)):∃bk c:Nat,v= .slice (some ⟨bk,0,none⟩) (l.length+1) c∧∀j u,(f x)[j]? =some u→w.cell? ⟨bk,j,none⟩=some u:=by
 rcases h with⟨h,_⟩|⟨bk,c,_,h1,_,_,h4⟩
 · cases h
 · refine⟨bk,c,h1,fun j u hu=>h4 j u ?_⟩;rw [List.flatMap_cons,List.getElem?_append_left (List.getElem?_eq_some_iff.1 hu).1,hu]
theorem Zp6 (t:List UInt8)(ht:t.length≤1000000)(w:World):Calls Tryz.prog 7 #[.string (B t)] w fun e w'=>e= .returned (.bool (ZdZ t))∧Below w.heap.size w w':=by
 have hrl:=fun w=>Zpb (B t) (by rw [Zy];exact ht) w;unfold ZdJ at hrl;rw [ZQ] at hrl;unfold ZdZ;generalize Zv t=L at*
 match L,hrl with
 |[],hrl=>
  rw [show Zd0 []=true from rfl];go_enter Tryz.func7,Tryz.ntmps7
  go_wp2_with (go_at_call 17;refine(hrl _).mono ?_;clear hrl;rintro e w1 ⟨v,rfl,hv,hb1⟩;obtain rfl:=Zto hv;clear hv)
  go_ret
  exact⟨rfl,hb1⟩
 |[x],hrl=>
  obtain⟨a,z,i⟩:=x;by_cases hz:z=[]
  · subst hz;rw [show Zd0 [(a,[],i)]=true from rfl];go_enter Tryz.func7,Tryz.ntmps7
    go_wp2_with (go_at_call 17;refine(hrl _).mono ?_;clear hrl;rintro e w1 ⟨v,rfl,hv,hb1⟩;obtain⟨bk,cp,rfl,hg⟩:=Zih hv;have c1:w1.cell? ⟨bk,1,none⟩=some (.string ⟨#[]⟩):=hg 1 _ rfl;clear hg hv)
    go_ret
    exact⟨rfl,hb1⟩
  · have hne:=Zdh hz;rw [show Zd0 [(a,z,i)]=false from decide_eq_false hz];go_enter Tryz.func7,Tryz.ntmps7
    go_wp2_with (go_at_call 17;refine(hrl _).mono ?_;clear hrl;rintro e w1 ⟨v,rfl,hv,hb1⟩;obtain⟨bk,cp,rfl,hg⟩:=Zih hv;have c1:w1.cell? ⟨bk,1,none⟩=some (.string (B z)):=hg 1 _ rfl;clear hg hv)
    go_ret
    exact⟨rfl,hb1⟩
 |x::y::r,hrl=>
  rw [show Zd0 (x::y::r)=false from rfl];go_enter Tryz.func7,Tryz.ntmps7
  go_wp2_with (go_at_call 17;refine(hrl _).mono ?_;clear hrl;rintro e w1 ⟨v,rfl,hv,hb1⟩;obtain⟨bk,cp,rfl,hg⟩:=Zih hv;rw [List.length_cons];clear hg hv)
  go_ret
  refine⟨?_,hb1⟩;have k0:((r.length:Int)+1+1==0)=false:=by rw [beq_eq_false_iff_ne];omega
  simp [k0]
end Go.Proofs.YtlfinljfghhpdaaGreatDoor
