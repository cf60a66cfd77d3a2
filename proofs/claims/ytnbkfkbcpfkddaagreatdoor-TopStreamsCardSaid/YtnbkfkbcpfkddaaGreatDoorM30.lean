/- Lemmas for a statement on the tops; conditions: as each says. -/
import Derived.Test.YtnbkfkbcpfkddaaGreatDoorM29
set_option linter.unusedVariables false
set_option linter.unusedSimpArgs false
set_option maxRecDepth 100000
set_option maxHeartbeats 4000000
namespace Go.Proofs.YtnbkfkbcpfkddaaGreatDoor
open Go Go.RowKit
theorem Zcg {w w':World} {a:Addr} {v:Value} (h:w.cell? a=some v)(hb:Below w.heap.size w w'):w'.cell? a=some v:=(hb.cell (World.block_lt_of_cell? _ _ h)).trans h
def Zcy (s:Int)(x:UInt8):Int:=bits .xor .u32 s ((x.toNat:Int)*16777216)
def Zbl (s:Int):Int:=bits .xor .u32 (s*16 % 4294967296) (hvS (s / 268435456).toNat)
def Zcz (s:Int)(x:UInt8):Int:=Zbl (Zbl (Zcy s x))
def Zaa (s:Int)(l:List UInt8):Int:=l.foldl Zcz s
theorem Zih (s:Int)(a b:List UInt8):Zaa s (a++b)=Zaa (Zaa s a) b:=List.foldl_append
theorem Znm (s:Int)(x:UInt8):0≤Zcz s x∧Zcz s x<4294967296:=by
 unfold Zcz Zbl;exact Zey _ _ _
theorem Zeu:∀(l:List UInt8) (s:Int),0≤s∧s<4294967296→0≤Zaa s l∧Zaa s l<4294967296
 |[],_,h=>h
 |x::r,s,_=>Zeu r (Zcz s x) (Znm s x)
theorem Zm0 (s:Int)(l:List UInt8)(k:Nat)(h:k<l.length):Zaa s (l.take (k+1))=Zcz (Zaa s (l.take k)) l[k]:=by
 rw [List.take_succ_eq_append_getElem h,Zih];rfl
theorem Zjq {w:World} {K n:Nat} (h:Bx w K hvR 290)(hn:n<16):w.cell? ⟨K,n,none⟩=some (.int .u32 (hvS n)):=by
 rw [h.cell n];rcases(show n=0∨n=1∨n=2∨n=3∨n=4∨n=5∨n=6∨n=7∨n=8∨n=9∨n=10∨n=11∨n=12∨n=13∨n=14∨n=15 by omega) with rfl|rfl|rfl|rfl|rfl|rfl|rfl|rfl|rfl|rfl|rfl|rfl|rfl|rfl|rfl|rfl
 all_goals rfl
def AiRel (s0:Int)(l:List UInt8)(s i:Value):Prop:=∃k:Nat,k≤l.length∧i= .int .i64 k∧s= .int .u32 (Zaa s0 (l.take k))
def AoRel (s0:Int)(xs:List (List UInt8))(s i:Value):Prop:=∃k:Nat,k≤xs.length∧i= .int .i64 k∧s= .int .u32 (Zaa s0 (xs.take k).flatten)
theorem Zlz (s0:Int)(hs0:0≤s0∧s0<4294967296)(A:Option Addr)(c:Nat)(xs:List (List UInt8))(hx:∀x∈xs,x.length≤1000000000)(hn:xs.length≤1000000000)(w:World)(hrow:∀(k:Nat) x,xs[k]? =some x→∃bk,A=some ⟨bk,0,none⟩∧bk<w.heap.size∧w.cell? ⟨bk,k,none⟩=some (.string (B x))):
 Calls Tryz.prog 157 #[.int .u32 s0,.slice A xs.length c] w fun e w'=>e= .returned (.int .u32 (Zaa s0 xs.flatten))∧Below w.heap.size w w':=by
 have Hrow:=Lib.hid hrow;have Hx:=Lib.hid hx;clear hrow hx;go_enter Tryz.func157,Tryz.ntmps157
 go_upto_region 2 with(first|(go_at_call 230;refine(ZlZ _).mono ?_;rintro e w1 ⟨rfl,hb1⟩)|(refine wpList_store_row rfl 290 _ _ rfl w1.heap.size hvR rfl rfl _ _ (heap_alloc_new w1 _) (by kernel_rfl) (by rfl) (by kernel_rfl) ?_;rw [World.setRow_alloc_new]))
 have K1:=Lib.hid (((Kp.start w).below hb1).new hvR 290);generalize hK:w1.heap.size=K at*;generalize (w1.alloc (.cells hvR 290))=W1 at*;have hlo:=K1.out.low;have Hlo:=Lib.hid hlo;clear hb1 hK hlo;go_wp2_with fail
 go_loop [0,12] (fun s i=>AoRel s0 xs s i) (fun _ i=>xs.length - (intOf i).toNat)
 case atStart=>exact⟨0,Nat.zero_le _,rfl,rfl⟩
 case round=>
  obtain⟨k,hk,rfl,rfl⟩:=hrel;by_cases hlt:k<xs.length
  · obtain⟨bk,rfl,hbk,hc0⟩:=Hrow.out k xs[k] (List.getElem?_eq_getElem hlt);have hc:W1.cell? ⟨bk,k,none⟩=some (.string (B xs[k])):=by rw [Hlo.out.cell (p:=⟨bk,k,none⟩) hbk];exact hc0
    have hbk2:bk<W1.heap.size:=Nat.lt_of_lt_of_le hbk Hlo.out.size;have hlx:=Hx.out _ (List.getElem_mem hlt);have hst:Zaa s0 (xs.take (k+1)).flatten=Zaa (Zaa s0 (xs.take k).flatten) xs[k]:=by
     rw [List.take_succ_eq_append_getElem hlt,List.flatten_append,Zih];simp
    have hr0:=Zeu (xs.take k).flatten s0 hs0;have Hst:=Lib.hid hst;have hkk2:((k:Int)).toNat=k:=by omega
    clear hst hc0;generalize Zaa s0 (xs.take k).flatten=S0 at*;generalize xs[k]=x at*;have hsz:=Zm x;go_wp2_with fail
    go_loop [0,18] (fun s i=>AiRel S0 x s i) (fun _ i=>x.length - (intOf i).toNat)
    case atStart=>exact⟨0,Nat.zero_le _,rfl,rfl⟩
    case round=>
     obtain⟨m,hm,rfl,rfl⟩:=hrel;by_cases hlm:m<x.length
     · have hg:=Zbp x m hlm;have hu:=x[m].toNat_lt;have hs1:=Zm0 S0 x m hlm;generalize Zaa S0 (x.take m)=s at*;generalize x[m]=y at*;have Hs1:=Lib.hid hs1;clear hs1;have h1:Zcz s y=Zbl (Zbl (Zcy s y)):=rfl;obtain⟨r1,r1'⟩:0≤Zcy s y∧Zcy s y<4294967296:=by unfold Zcy;exact Zey _ _ _
       have e1:bits .xor .u32 s ((y.toNat:Int)*16777216)=Zcy s y:=rfl;generalize Zcy s y=b1 at*;have d1:Zbl b1=bits .xor .u32 (b1*16 % 4294967296) (hvS (b1 / 268435456).toNat):=rfl;obtain⟨n1,hn1⟩:∃n:Nat,b1 / 268435456=n:=⟨(b1 / 268435456).toNat,by omega⟩
       have hn1':n1<16:=by omega
       rw [hn1,Int.toNat_natCast] at d1;have c1:=Zjq K1.out.b0 hn1';obtain⟨r2,r2'⟩:0≤Zbl b1∧Zbl b1<4294967296:=by rw [d1];exact Zey _ _ _
       have hh1:=Zjp n1 hn1';generalize hvS n1=H1 at*;generalize Zbl b1=b2 at*;have d2:Zbl b2=bits .xor .u32 (b2*16 % 4294967296) (hvS (b2 / 268435456).toNat):=rfl;obtain⟨n2,hn2⟩:∃n:Nat,b2 / 268435456=n:=⟨(b2 / 268435456).toNat,by omega⟩
       have hn2':n2<16:=by omega
       rw [hn2,Int.toNat_natCast] at d2;have c2:=Zjq K1.out.b0 hn2';have hh2:=Zjp n2 hn2';generalize hvS n2=H2 at*;generalize Zbl b2=b3 at*;have H1':=Lib.hid h1;have d1':=d1.symm;have d2':=d2.symm;clear h1 d1 d2;have hkl:=K1.out.b0.lt;simp only at hkl c1 c2;go_wp2_with fail
       go_round
       case rel=>exact⟨m+1,by omega,by go_num,by rw [Hs1.out,H1'.out]⟩
       case measure=>simp [intOf];omega
     · have hm2:m=x.length:=by omega
       subst hm2;rw [List.take_length];go_wp2_with fail
       go_round
       case rel=>exact⟨k+1,by omega,by go_num,by rw [Hst.out]⟩
       case measure=>simp [intOf];omega
  · have hk2:k=xs.length:=by omega
    subst hk2;rw [List.take_length];go_wp2_with fail
    refine bodyPost_ret (v:= .int .u32 (Zaa s0 xs.flatten)) (by simp [results,Tryz.results157,go_sem]) rfl ⟨rfl,Hlo.out⟩
theorem Of_any (A:Option Addr)(c:Nat)(xs:List (List UInt8))(hx:∀x∈xs,x.length≤1000000000)(hn:xs.length≤1000000000)(w:World)(hrow:∀(k:Nat) x,xs[k]? =some x→∃bk,A=some ⟨bk,0,none⟩∧bk<w.heap.size∧w.cell? ⟨bk,k,none⟩=some (.string (B x))):
 Calls Tryz.prog 86 #[.slice A xs.length c] w fun e w'=>e= .returned (.int .u32 (Zaa 0 xs.flatten))∧Below w.heap.size w w':=by
 have ha:=Zlz 0 ⟨by decide,by decide⟩ A c xs hx hn w hrow;generalize Zaa 0 xs.flatten=S at*;generalize xs.length=n at*;go_enter Tryz.func86,Tryz.ntmps86
 go_wp2_with (go_at_call 157;refine ha.mono ?_;rintro e w1 ⟨rfl,hb1⟩)
 go_ret
 exact⟨rfl,hb1⟩
theorem ZmA (s:Nat)(hs:s<4294967296)(w:World):
 Calls Tryz.prog 36 #[.int .u32 s] w fun e w'=>e= .returned (.string (B (Zf s 4)))∧Below w.heap.size w w':=by
 have hsm:=fun w=>Zdz s 4 (by omega) (by omega) (by omega) w;go_enter Tryz.func36,Tryz.ntmps36
 go_wp2_with (go_at_call 85;refine(hsm _).mono ?_;rintro e w1 ⟨rfl,hb1⟩)
 go_ret
 exact⟨rfl,hb1⟩
theorem Zfo (l:List UInt8)(k:Nat)(h:k<l.length):Zc (l.take (k+1))=Zc (l.take k)+l[k].toNat:=by
 rw [List.take_succ_eq_append_getElem h,ZcT];simp [Zc]
theorem ZbL:∀l:List UInt8,Zc l≤255*l.length
 |[]=>by simp [Zc]
 |x::r=>by
  have:=ZbL r;have:=x.toNat_lt;simp only [Zc,List.length_cons];omega
def TtRel (l:List UInt8)(n i:Value):Prop:=∃k:Nat,k≤l.length∧i= .int .i64 k∧n= .int .i64 (Zc (l.take k):Nat)
theorem Zh4 (l:List UInt8)(hl:l.length≤1000000000)(w:World):
 Calls Tryz.prog 83 #[.string (B l)] w fun e w'=>e= .returned (.int .i64 (Zc l:Nat))∧w=w':=by
 have hsz:=Zm l;go_enter Tryz.func83,Tryz.ntmps83
 go_wp2_with fail
 go_loop [3,7] (fun n i=>TtRel l n i) (fun _ i=>l.length - (intOf i).toNat)
 case atStart=>exact⟨0,Nat.zero_le _,rfl,rfl⟩
 case round=>
  obtain⟨k,hk,rfl,rfl⟩:=hrel;by_cases hlt:k<l.length
  · have hg:=Zbp l k hlt;have hs:=Zfo l k hlt;have hb:=ZbL (l.take k);rw [List.length_take,Nat.min_eq_left (by omega)] at hb;have hx:=l[k].toNat_lt;have Hs:=Lib.hid hs;clear hs;generalize Zc (l.take k)=N at*;generalize l[k]=x at*;go_wp2_with fail
    go_round
    case rel=>exact⟨k+1,by omega,by go_num,by rw [Hs.out];go_num⟩
    case measure=>simp [intOf];omega
  · have hk2:k=l.length:=by omega
    subst hk2;rw [List.take_length];go_wp2_with fail
    go_ret
    exact⟨rfl,rfl⟩
structure PgFit (p:Pg):Prop where
 pos:p.pos<18446744073709551616
 ser:p.ser<4294967296
 num:p.num<4294967296
 laces:p.laces.length≤1000000000
 body:p.body.length≤1000000000
def pgA (p:Pg):Array Value:=#[.int .u8 p.fl.toNat,.int .u64 (p.pos:Nat),.int .u32 (p.ser:Nat),.int .u32 (p.num:Nat),.string (B p.laces),.string (B p.body)]
def Zab (p:Pg):Nat×Nat:=if 255<p.laces.length then(4,0) else if p.body.length≠Zc p.laces then(5,0) else(0,0)
theorem ZfI (p:Pg)(hp:PgFit p)(w:World):Calls Tryz.prog 33 #[.agg (pgA p)] w (Zdv w (Zab p)):=by
 obtain⟨fl,pos,ser,num,laces,body⟩:=p;obtain⟨_,_,_,h4,h5⟩:=hp;simp only at h4 h5;have hs1:=Zm laces;have hs2:=Zm body;have htt:=fun w=>Zh4 laces h4 w;have htl:=ZbL laces;unfold pgA Zab Zdv;simp only;by_cases h1:255<laces.length
 · rw [if_pos h1];go_enter Tryz.func33,Tryz.ntmps33
   go_wp2_with fail
   refine bodyPost_ret (v:= .agg #[.int .i64 4,.int .i64 0]) (by simp [results,Tryz.results33,go_sem]) rfl ⟨rfl,?_⟩;exact((Below.refl _ w).alloc (Nat.le_refl _) _).alloc (by simp) _
 · rw [if_neg h1];by_cases h2:body.length=Zc laces
   · rw [if_neg (fun h=>h h2)];generalize Zc laces=N at*;have q1:((body.length:Int)==N)=true:=by simp;omega
     have q2:((body.length:Int) !=N)=false:=by simp;omega
     go_enter Tryz.func33,Tryz.ntmps33
     go_wp2_with fail
     go_quiet ((go_at_call 83;exact Calls.quiet_of_same ((htt _).mono fun _ _ ⟨a,b⟩=>⟨a,b.symm⟩)))
     go_wp2_with fail
     refine bodyPost_ret (v:= .agg #[.int .i64 0,.int .i64 0]) (by simp [results,Tryz.results33,go_sem]) rfl ⟨rfl,?_⟩;exact below_drewN (((((Below.refl _ w).alloc (Nat.le_refl _) _).alloc (by simp) _).setCell (by simp) _).setCell (by simp) _) _
   · rw [if_pos h2];generalize Zc laces=N at*;have q1:((body.length:Int)==N)=false:=by rw [beq_eq_false_iff_ne];omega
     have q2:((body.length:Int) !=N)=true:=by simp;omega
     go_enter Tryz.func33,Tryz.ntmps33
     go_wp2_with fail
     go_quiet ((go_at_call 83;exact Calls.quiet_of_same ((htt _).mono fun _ _ ⟨a,b⟩=>⟨a,b.symm⟩)))
     go_wp2_with fail
     refine bodyPost_ret (v:= .agg #[.int .i64 5,.int .i64 0]) (by simp [results,Tryz.results33,go_sem]) rfl ⟨rfl,?_⟩;exact below_drewN (((((Below.refl _ w).alloc (Nat.le_refl _) _).alloc (by simp) _).setCell (by simp) _).setCell (by simp) _) _
def Zav (p:Pg)(four:List UInt8):List (List UInt8):=[Z9,[0],[p.fl],Zf p.pos 8,Zf p.ser 4,Zf p.num 4,four,[UInt8.ofNat p.laces.length],p.laces,p.body]
theorem ZgQ (p:Pg)(four:List UInt8):(Zav p four).flatten=ZP p four:=by
 unfold Zav ZP;simp
theorem ZhE (n:Nat)(h:n<18446744073709551616)(w:World):Calls Tryz.prog 84 #[.int .u64 (n:Nat),.int .i64 1] w fun e w'=>e= .returned (.string (B [UInt8.ofNat n]))∧Below w.heap.size w w':=by
 have:=ZhD n 1 h (by omega) (by omega) w;have e:ZbA n 1=[UInt8.ofNat n]:=by
  simp only [ZbA,Nat.pow_zero,Nat.div_one];congr 1
  apply UInt8.toNat_inj.1
  simp
 rw [e] at this;exact this
def Zdy (w:World)(p:Pg)(four:List UInt8)(e:Ending)(w':World):Prop:=∃K,e= .returned (.slice (some ⟨K,0,none⟩) 10 10)∧w.heap.size≤K∧K<w'.heap.size∧Hid (∀(k:Nat) x,(Zav p four)[k]? =some x→w'.cell? ⟨K,k,none⟩=some (.string (B x)))∧Below w.heap.size w w'
theorem Zh2 (p:Pg)(hp:PgFit p)(four:List UInt8)(w:World):Calls Tryz.prog 34 #[.agg (pgA p),.string (B four)] w (Zdy w p four):=by
 obtain⟨fl,pos,ser,num,laces,body⟩:=p;obtain⟨h1,h2,h3,h4,h5⟩:=hp;simp only at h1 h2 h3 h4 h5;have hs1:=Zm laces;have b1:=fun w=>ZlC fl w;have b2:∀w,Calls Tryz.prog 85 #[.int .u64 (pos:Nat),.int .i64 8] w fun e w'=>e= .returned (.string (B (Zf pos 8)))∧Below w.heap.size w w':=fun w=>Zdz pos 8 h1 (by omega) (by omega) w;have b3:∀w,Calls Tryz.prog 85 #[.int .u64 (ser:Nat),.int .i64 4] w fun e w'=>e= .returned (.string (B (Zf ser 4)))∧Below w.heap.size w w':=fun w=>Zdz ser 4 (by omega) (by omega) (by omega) w;have b4:∀w,Calls Tryz.prog 85 #[.int .u64 (num:Nat),.int .i64 4] w fun e w'=>e= .returned (.string (B (Zf num 4)))∧Below w.heap.size w w':=fun w=>Zdz num 4 (by omega) (by omega) (by omega) w;have b5:=fun w=>ZhE laces.length (by omega) w;have w1:IntKind.u64.wrap (fl.toNat:Int)=fl.toNat:=by have:=fl.toNat_lt;rw [IntKind.wrap_u64];omega
 have w3:IntKind.u64.wrap (ser:Int)=ser:=by rw [IntKind.wrap_u64];omega
 have w4:IntKind.u64.wrap (num:Int)=num:=by rw [IntKind.wrap_u64];omega
 have w5:IntKind.u64.wrap (laces.length:Int)=laces.length:=by rw [IntKind.wrap_u64];omega
 unfold pgA;simp only;generalize hP:Zdy w ⟨fl,pos,ser,num,laces,body⟩ four=P at*;have HP:Hid (∀W x,Below w.heap.size w W→x=W.alloc (.cells #[.string ⟨#[79,103,103,83]⟩,.string ⟨#[0]⟩,.string (B [fl]),.string (B (Zf pos 8)),.string (B (Zf ser 4)),.string (B (Zf num 4)),.string (B four),.string (B [UInt8.ofNat laces.length]),.string (B laces),.string (B body)] 9)→P (.returned (.slice (some ⟨W.heap.size,0,none⟩) 10 10)) x):=Lib.hid (by
  rintro W x hW rfl;rw [←hP];refine⟨W.heap.size,rfl,hW.size,by simp,Lib.hid fun k x hx=> ?_,hW.alloc hW.size _⟩;rw [cell_of_row _ _ k _ _ (0,0) (heap_alloc_new W _)];unfold Zav at hx
  match k,hx with
  |0,hx|1,hx|2,hx|3,hx|4,hx|5,hx|6,hx|7,hx|8,hx|9,hx=>simp at hx;subst hx;rfl
  |k+10,hx=>simp at hx)
 have S0:=Lib.hid ((Kp.start w).new #[.int .u8 fl.toNat,.int .u64 (pos:Nat),.int .u32 (ser:Nat),.int .u32 (num:Nat),.string (B laces),.string (B body)] 27);clear hP;go_enter Tryz.func34,Tryz.ntmps34
 go_upto_region 1 with fail
 generalize (w.alloc (.cells #[.int .u8 fl.toNat,.int .u64 (pos:Nat),.int .u32 (ser:Nat),.int .u32 (num:Nat),.string (B laces),.string (B body)] 27))=W1 at*;go_region_held3 (fun w'=>w'.cell? ⟨w.heap.size,0,none⟩=some (.int .u8 fl.toNat)∧w'.cell? ⟨w.heap.size,1,none⟩=some (.int .u64 (pos:Nat))∧w'.cell? ⟨w.heap.size,2,none⟩=some (.int .u32 (ser:Nat))∧w'.cell? ⟨w.heap.size,3,none⟩=some (.int .u32 (num:Nat))∧w'.cell? ⟨w.heap.size,4,none⟩=some (.string (B laces))∧w'.cell? ⟨w.heap.size,5,none⟩=some (.string (B body)))
  (first|with_reducible exact S0.out.drew.b0.six|with_reducible exact S1.out.b0.six|with_reducible exact S2.out.b0.six|with_reducible exact S3.out.b0.six|with_reducible exact S4.out.b0.six|with_reducible exact S5.out.b0.six|with_reducible exact(S5.out.alloc _).b0.six)
  (first
   |(go_at_call 84;(first|((with_reducible refine(b1 _).mono ?_);rintro e wb ⟨rfl,hbb⟩)|((with_reducible refine(b5 _).mono ?_);rintro e wb ⟨rfl,hbb⟩));first|(have S1:=Lib.hid (S0.out.drew.below hbb);clear hbb)|(have S5:=Lib.hid (S4.out.below hbb);clear hbb))
   |(go_at_call 85;(first|((with_reducible refine(b2 _).mono ?_);rintro e wb ⟨rfl,hbb⟩)|((with_reducible refine(b3 _).mono ?_);rintro e wb ⟨rfl,hbb⟩)|((with_reducible refine(b4 _).mono ?_);rintro e wb ⟨rfl,hbb⟩));first|(have S2:=Lib.hid (S1.out.below hbb);clear hbb)|(have S3:=Lib.hid (S2.out.below hbb);clear hbb)|(have S4:=Lib.hid (S3.out.below hbb);clear hbb)))
 all_goals
  go_wp2_with fail
  show P (.returned (.slice (some ⟨_,0,none⟩) 10 10)) _
  exact HP.out _ _ S5.out.low rfl
def Zp (l:List UInt8):Nat:=(Zaa 0 l).toNat
theorem Zgd (l:List UInt8):Zp l<4294967296:=by
 have:=Zeu l 0 (by decide);unfold Zp;omega
theorem Znx (l:List UInt8):Zaa 0 l=(Zp l:Nat):=by
 have:=Zeu l 0 (by decide);unfold Zp;omega
theorem ZpA (p:Pg)(hp:PgFit p)(four:List UInt8)(h4:four.length=4):∀x∈Zav p four,x.length≤1000000000:=by
 intro x hx;have h1:=hp.laces;have h2:=hp.body;simp only [Zav,List.mem_cons,List.not_mem_nil,or_false] at hx;rcases hx with rfl|rfl|rfl|rfl|rfl|rfl|rfl|rfl|rfl|rfl<;>first|omega|(simp only [ZcP];omega)|(simp [Z9])
theorem Zh3 (p:Pg)(hp:PgFit p)(w:World):Calls Tryz.prog 35 #[.agg (pgA p)] w fun e w'=>e= .returned (.int .u32 (Zp (ZP p [0,0,0,0]):Nat))∧Below w.heap.size w w':=by
 have hpa:∀w,Calls Tryz.prog 34 #[.agg (pgA p),.string ⟨#[0,0,0,0]⟩] w (Zdy w p [0,0,0,0]):=fun w=>Zh2 p hp [0,0,0,0] w;have hof:∀(K:Nat) w1,K<w1.heap.size→Hid (∀(k:Nat) x,(Zav p [0,0,0,0])[k]? =some x→w1.cell? ⟨K,k,none⟩=some (.string (B x)))→Calls Tryz.prog 86 #[.slice (some ⟨K,0,none⟩) 10 10] w1 fun e w'=>e= .returned (.int .u32 (Zp (ZP p [0,0,0,0]):Nat))∧Below w1.heap.size w1 w':=fun K w1 hK hc=>by
  have h:=Of_any (some ⟨K,0,none⟩) 10 (Zav p [0,0,0,0]) (ZpA p hp _ rfl) (by simp [Zav]) w1 (fun k x hx=>⟨K,rfl,hK,hc.out k x hx⟩);rw [ZgQ,Znx] at h;exact h
 unfold Zdy at hpa;generalize hP:(fun(e:Ending) w'=>e= .returned (.int .u32 (Zp (ZP p [0,0,0,0]):Nat))∧Below w.heap.size w w')=P at*;have HP:Hid (∀w',Below w.heap.size w w'→P (.returned (.int .u32 (Zp (ZP p [0,0,0,0]):Nat))) w'):=Lib.hid fun w' h=>by rw [←hP];exact⟨rfl,h⟩
 have S0:=Lib.hid ((Kp.start w).new (pgA p) 27);generalize Zp (ZP p [0,0,0,0])=C at*;generalize Zav p [0,0,0,0]=PS at*;clear hP;unfold pgA at*;obtain⟨c0,c1,c2,c3,c4,c5⟩:=S0.out.b0.six;go_enter Tryz.func35,Tryz.ntmps35
 go_wp2_with (first
  |(go_at_call 34;refine(hpa _).mono ?_;rintro e w1 ⟨K,rfl,hK1,hK2,hc,hb1⟩;have S1:=Lib.hid (S0.out.below hb1);clear hb1)
  |(go_at_call 86;refine(hof _ _ hK2 hc).mono ?_;rintro e w2 ⟨rfl,hb2⟩;have S2:=Lib.hid (S1.out.below hb2);clear hb2))
 show P (.returned (.int .u32 (C:Nat))) _
 exact HP.out _ S2.out.low
theorem Zml (p:Pg)(hp:PgFit p)(hok:Zab p=(0,0))(w:World):Calls Tryz.prog 18 #[.agg (pgA p)] w (Zfu w (ZL Zp p)):=by
 have hpa:=fun w=>Zh2 p hp (Zf (Zp (ZP p [0,0,0,0])) 4) w;have hsu:=fun w=>Zh3 p hp w;have hby:=fun w=>ZmA (Zp (ZP p [0,0,0,0])) (Zgd _) w;have hck:=fun w=>ZfI p hp w;rw [hok] at hck;unfold Zdv at hck;unfold Zdy at hpa;have hjn:∀(K:Nat) w1,Hid (∀(k:Nat) x,(Zav p (Zf (Zp (ZP p [0,0,0,0])) 4))[k]? =some x→w1.cell? ⟨K,k,none⟩=some (.string (B x)))→Calls Tryz.prog 19 #[.slice (some ⟨K,0,none⟩) 10 10] w1 fun e w'=>e= .returned (.string (B (ZL Zp p)))∧Below w1.heap.size w1 w':=fun K w1 hc=>by
  have hl:=hp.laces;have hbd:=hp.body;have h:=Zek K 10 (Zav p (Zf (Zp (ZP p [0,0,0,0])) 4)) w1 hc.out (by simp [Zav]) (by simp [Zav]) (by rw [ZgQ];unfold ZP Z9;simp only [List.length_append,List.length_cons,List.length_nil,ZcP];omega) (by simp [Zav]);rw [ZgQ] at h;exact h
 have hbd:=fun w=>ZT 0 0 rfl w;generalize hP:Zfu w (ZL Zp p)=P at*;have HP:Hid (∀w',Below w.heap.size w w'→P (.returned (.tuple #[.string (B (ZL Zp p)),.agg #[.int .i64 0,.int .i64 0]])) w'):=Lib.hid fun w' h=>by rw [←hP];exact⟨rfl,h⟩
 have S0:=Lib.hid (((Kp.start w).new (pgA p) 27).new #[.int .i64 0,.int .i64 0] 45);generalize ZL Zp p=OUT at*;generalize Zav p (Zf (Zp (ZP p [0,0,0,0])) 4)=PS at*;generalize Zf (Zp (ZP p [0,0,0,0])) 4=F4 at*;generalize Zp (ZP p [0,0,0,0])=C at*;clear hP hp hok;rw [World.size_alloc] at S0;unfold pgA at*;obtain⟨c0,c1,c2,c3,c4,c5⟩:=S0.out.tl.b0.six;go_enter Tryz.func18,Tryz.ntmps18
 go_upto_region 4 with(first
  |(go_at_call 33;refine(hck _).mono ?_;rintro e w1 ⟨rfl,hb1⟩;have S1:=Lib.hid ((S0.out.below hb1).alloc (.cells #[.int .i64 0,.int .i64 0] 45));clear hb1)
  |(go_at_call 8;refine(hbd _).mono ?_;rintro e w2 ⟨rfl,hb2⟩;have S2:=Lib.hid (S1.out.below hb2);clear hb2))
 generalize (w1.alloc (.cells #[.int .i64 0,.int .i64 0] 45))=W1 at*;clear c0 c1 c2 c3 c4 c5;go_region_held3 (fun w'=>w'.cell? ⟨w.heap.size,0,none⟩=some (.int .u8 p.fl.toNat)∧w'.cell? ⟨w.heap.size,1,none⟩=some (.int .u64 (p.pos:Nat))∧w'.cell? ⟨w.heap.size,2,none⟩=some (.int .u32 (p.ser:Nat))∧w'.cell? ⟨w.heap.size,3,none⟩=some (.int .u32 (p.num:Nat))∧w'.cell? ⟨w.heap.size,4,none⟩=some (.string (B p.laces))∧w'.cell? ⟨w.heap.size,5,none⟩=some (.string (B p.body)))
  (first|with_reducible exact S2.out.drew.tl.b0.six|with_reducible exact S3.out.tl.b0.six|with_reducible exact S4.out.tl.b0.six|with_reducible exact S5.out.tl.b0.six|with_reducible exact S6.out.tl.b0.six|with_reducible exact(Bx.set (Bx.set S6.out.tl.b0 rn 0 _) rn 1 _).six)
  (first
   |(go_at_call 35;refine(hsu _).mono ?_;rintro e wb ⟨rfl,hbb⟩;have S3:=Lib.hid (S2.out.drew.below hbb);clear hbb)
   |(go_at_call 36;refine(hby _).mono ?_;rintro e wb ⟨rfl,hbb⟩;have S4:=Lib.hid (S3.out.below hbb);clear hbb)
   |(go_at_call 34;refine(hpa _).mono ?_;rintro e wb ⟨K,rfl,hK1,hK2,hc,hbb⟩;have S5:=Lib.hid (S4.out.below hbb);clear hbb)
   |(go_at_call 19;refine(hjn _ _ hc).mono ?_;rintro e wb ⟨rfl,hbb⟩;have S6:=Lib.hid (S5.out.below hbb);clear hbb;have r0:=S6.out.b0.cell 0;have r1:=S6.out.b0.cell 1;have rf:=S6.out.b0.free;have rl:=S6.out.b0.lt;have rn:w.heap.size≠w.heap.size+1:=Nat.ne_of_lt (Nat.lt_succ_self _)))
 all_goals
  go_wp2_with fail
  have F:Bx _ (w.heap.size+1) _ _:=Za9 S6.out.b0 (.int .i64 0) (.int .i64 0);refine bodyPost_ret (Zbg rfl _ _ (w.heap.size+1) _ _ _ _ _ rfl rfl F Tryz.underlying45 rfl (by kernel_rfl)) rfl ?_;exact HP.out _ ((S6.out.low.setCell (p:=⟨w.heap.size+1,0,none⟩) (Nat.le_succ _) _).setCell (p:=⟨w.heap.size+1,1,none⟩) (Nat.le_succ _) _)
structure Rb (w0 w:World)(K:Nat)(s:InS)(l:List (Nat×Array Value×TypeId)):Prop where
 bx:∀x∈l,Bx w x.1 x.2.1 x.2.2
 ge:∀x∈l,w0.heap.size≤x.1
 inn:InAt w K s
 but:But K w0.heap.size w0 w
 lt:K<w0.heap.size
section
variable {w0 w w':World} {K g:Nat} {s s':InS} {l:List (Nat×Array Value×TypeId)} {cs:Array Value} {T:TypeId} {x:Nat×Array Value×TypeId}
theorem Rb.start (h:InAt w K s):Rb w w K s []:=⟨fun _ h=>(List.not_mem_nil h).elim,fun _ h=>(List.not_mem_nil h).elim,h,.refl _ _ _,h.lt⟩
theorem Rb.below (h:Rb w0 w K s l)(hb:Below w.heap.size w w'):Rb w0 w' K s l:=⟨fun x hx=>(h.bx x hx).below hb,h.ge,h.inn.below hb,h.but.trans ((But.of hb).mono h.but.size),h.lt⟩
theorem Rb.rd (h:Rb w0 w K s l)(hi:InAt w' K s')(hb:But K w.heap.size w w'):Rb w0 w' K s' l:=
 ⟨fun x hx=>(h.bx x hx).but hb (by have:=h.ge x hx;have:=h.lt;omega),h.ge,hi,h.but.trans (hb.mono h.but.size),h.lt⟩
theorem Rb.new (h:Rb w0 w K s l)(cs:Array Value)(T:TypeId):Rb w0 (w.alloc (.cells cs T)) K s ((w.heap.size,cs,T)::l):=
 ⟨fun x hx=>by
  rcases List.mem_cons.1 hx with rfl|hx
  · exact Bx.new w cs T
  · exact(h.bx x hx).alloc _,fun x hx=>by
  rcases List.mem_cons.1 hx with rfl|hx
  · exact h.but.size
  · exact h.ge x hx,h.inn.alloc _,h.but.alloc h.but.size _,h.lt⟩
theorem Rb.b0 (h:Rb w0 w K s (x::l)):Bx w x.1 x.2.1 x.2.2:=h.bx x (List.mem_cons_self ..)
theorem Rb.tl (h:Rb w0 w K s (x::l)):Rb w0 w K s l:=⟨fun y hy=>h.bx y (List.mem_cons_of_mem _ hy),fun y hy=>h.ge y (List.mem_cons_of_mem _ hy),h.inn,h.but,h.lt⟩
theorem Rb.put (h:Rb w0 w K s ((g,cs,T)::l))(hl:∀x∈l,x.1≠g)(j:Nat)(v:Value):Rb w0 (w.setCell ⟨g,j,none⟩ v) K s ((g,cs.setIfInBounds j v,T)::l):=by
 have hg:w0.heap.size≤g:=h.ge _ (List.mem_cons_self ..);have hlt:=h.lt;exact⟨fun x hx=>by
  rcases List.mem_cons.1 hx with rfl|hx
  · exact h.b0.put j v
  · exact(h.tl.bx x hx).set (hl x hx) j v,fun x hx=>by
  rcases List.mem_cons.1 hx with rfl|hx
  · exact hg
  · exact h.ge x (List.mem_cons_of_mem _ hx),h.inn.set (by omega) j v,h.but.setCell (p:=⟨g,j,none⟩) (.inl hg) v,h.lt⟩
theorem Rb.fin6 {x0 x1 x2 x3 x4 x5:Value} (h:Rb w0 w K s ((g,#[x0,x1,x2,x3,x4,x5],T)::l))(a b c d e f:Value):
 let W:=(((((w.setCell ⟨g,0,none⟩ a).setCell ⟨g,1,none⟩ b).setCell ⟨g,2,none⟩ c).setCell ⟨g,3,none⟩ d).setCell ⟨g,4,none⟩ e).setCell ⟨g,5,none⟩ f
 Bx W g #[a,b,c,d,e,f] T∧InAt W K s∧But K w0.heap.size w0 W:=by
 have hg:w0.heap.size≤g:=h.ge _ (List.mem_cons_self ..);have hlt:=h.lt;have hn:K≠g:=by omega
 exact⟨Bx.zero6 h.b0 a b c d e f,(((((h.inn.set hn 0 a).set hn 1 b).set hn 2 c).set hn 3 d).set hn 4 e).set hn 5 f,
  (((((h.but.setCell (p:=⟨g,0,none⟩) (.inl hg) a).setCell (p:=⟨g,1,none⟩) (.inl hg) b).setCell (p:=⟨g,2,none⟩) (.inl hg) c).setCell (p:=⟨g,3,none⟩) (.inl hg) d).setCell (p:=⟨g,4,none⟩) (.inl hg) e).setCell (p:=⟨g,5,none⟩) (.inl hg) f⟩
end
def pgZ:Array Value:=#[.int .u8 0,.int .u64 0,.int .u32 0,.int .u32 0,.string ⟨#[]⟩,.string ⟨#[]⟩]
def ZfJ (w:World)(K:Nat)(r:Option Pg×InS)(e:Ending)(w':World):Prop:=
 InAt w' K r.2∧But K w.heap.size w w'∧match r.1 with
 |some p=>e= .returned (.tuple #[.agg (pgA p),.bool true])∧PgFit p
 |none=>e= .returned (.tuple #[.agg pgZ,.bool false])
theorem Zfi (s:InS)(k:Nat)(hk:k≤8):(s.small k).1<256^k:=by
 unfold InS.small;simp only [Nat.min_eq_left hk];have h1:=ZcS s k;have h2:=Zfh (s.take k).1;exact Nat.lt_of_lt_of_le h2 (Nat.pow_le_pow_right (by decide) h1)
theorem Zmj (K:Nat)(s:InS)(w:World)(h:InAt w K s)(h0:¬(s.e≠0∨s.left=0)):
 Calls Tryz.prog 110 #[.pointer (some ⟨K,0,none⟩)] w (ZfJ w K (Zdk Zp s)):=by
 obtain⟨s1,hs1⟩:∃q,q=(s.want Z9).2:=⟨_,rfl⟩
 obtain⟨s2,hs2⟩:∃q,q=(s1.want [0]).2:=⟨_,rfl⟩
 obtain⟨⟨f,s3⟩,hs3⟩:∃q,q=s2.big 1:=⟨_,rfl⟩
 obtain⟨⟨pos,s4⟩,hs4⟩:∃q,q=s3.small 8:=⟨_,rfl⟩
 obtain⟨⟨ser,s5⟩,hs5⟩:∃q,q=s4.small 4:=⟨_,rfl⟩
 obtain⟨⟨num,s6⟩,hs6⟩:∃q,q=s5.small 4:=⟨_,rfl⟩
 obtain⟨⟨four,s7⟩,hs7⟩:∃q,q=s6.small 4:=⟨_,rfl⟩
 obtain⟨⟨k,s8⟩,hs8⟩:∃q,q=s7.big 1:=⟨_,rfl⟩
 obtain⟨⟨la,s9⟩,hs9⟩:∃q,q=s8.take k:=⟨_,rfl⟩
 obtain⟨⟨bo,s10⟩,hs10⟩:∃q,q=s9.take (Zc la):=⟨_,rfl⟩
 have hR:Zdk Zp s=if s10.e≠0 then(none,s10) else if Zp (ZP ⟨UInt8.ofNat f,pos,ser,num,la,bo⟩ [0,0,0,0])≠four then(none,s10.fail 1 s6.at_) else(some ⟨UInt8.ofNat f,pos,ser,num,la,bo⟩,s10):=by
  unfold Zdk;rw [if_neg h0];simp only;rw [←hs1,←hs2,←hs3];simp only;rw [←hs4];simp only;rw [←hs5];simp only;rw [←hs6];simp only;rw [←hs7];simp only;rw [←hs8];simp only;rw [←hs9];simp only;rw [←hs10]
 rw [hR];have b3:f<256:=by have:=Zis s2 1 (by omega);rw [←hs3] at this;simpa using this
 have b4:pos<18446744073709551616:=by have:=Zfi s3 8 (by omega);rw [←hs4] at this;simpa using this
 have b5:ser<4294967296:=by have:=Zfi s4 4 (by omega);rw [←hs5] at this;simpa using this
 have b6:num<4294967296:=by have:=Zfi s5 4 (by omega);rw [←hs6] at this;simpa using this
 have b7:four<4294967296:=by have:=Zfi s6 4 (by omega);rw [←hs7] at this;simpa using this
 have b8:k<256:=by have:=Zis s7 1 (by omega);rw [←hs8] at this;simpa using this
 have b9:la.length≤256:=by have:=ZcS s8 k;rw [←hs9] at this;simp only at this;omega
 have htl:=ZbL la;have b10:bo.length≤100000:=by have:=ZcS s9 (Zc la);rw [←hs10] at this;simp only at this;omega
 have hfit:PgFit ⟨UInt8.ofNat f,pos,ser,num,la,bo⟩:=⟨b4,b5,b6,by simp only;omega,by simp only;omega⟩
 have w1:∀w,InAt w K s→Calls Tryz.prog 53 #[.pointer (some ⟨K,0,none⟩),.string ⟨#[79,103,103,83]⟩] w fun e w'=>(∃b,e= .returned (.bool b))∧InAt w' K s1∧But K w.heap.size w w':=fun w h=>(Zes K s Z9 (by decide) w h).mono fun e w' q=>⟨⟨_,q.1⟩,by rw [hs1];exact q.2.1,q.2.2⟩
 have w2:∀w,InAt w K s1→Calls Tryz.prog 53 #[.pointer (some ⟨K,0,none⟩),.string ⟨#[0]⟩] w fun e w'=>(∃b,e= .returned (.bool b))∧InAt w' K s2∧But K w.heap.size w w':=fun w h=>(Zes K s1 [0] (by decide) w h).mono fun e w' q=>⟨⟨_,q.1⟩,by rw [hs2];exact q.2.1,q.2.2⟩
 have w3:∀w,InAt w K s2→Calls Tryz.prog 58 #[.pointer (some ⟨K,0,none⟩),.int .i64 1] w fun e w'=>e= .returned (.int .u64 (f:Nat))∧InAt w' K s3∧But K w.heap.size w w':=fun w h=>by
  have q:=Zh7 K s2 1 (by omega) w h;rw [←hs3] at q;exact q
 have w4:∀w,InAt w K s3→Calls Tryz.prog 119 #[.pointer (some ⟨K,0,none⟩),.int .i64 8] w fun e w'=>e= .returned (.int .u64 (pos:Nat))∧InAt w' K s4∧But K w.heap.size w w':=fun w h=>by
  have q:=ZcW K s3 8 (by omega) w h;rw [←hs4] at q;exact q
 have w5:∀w,InAt w K s4→Calls Tryz.prog 119 #[.pointer (some ⟨K,0,none⟩),.int .i64 4] w fun e w'=>e= .returned (.int .u64 (ser:Nat))∧InAt w' K s5∧But K w.heap.size w w':=fun w h=>by
  have q:=ZcW K s4 4 (by omega) w h;rw [←hs5] at q;exact q
 have w6:∀w,InAt w K s5→Calls Tryz.prog 119 #[.pointer (some ⟨K,0,none⟩),.int .i64 4] w fun e w'=>e= .returned (.int .u64 (num:Nat))∧InAt w' K s6∧But K w.heap.size w w':=fun w h=>by
  have q:=ZcW K s5 4 (by omega) w h;rw [←hs6] at q;exact q
 have wa:=fun w h=>Zdu K s6 w h;have w7:∀w,InAt w K s6→Calls Tryz.prog 119 #[.pointer (some ⟨K,0,none⟩),.int .i64 4] w fun e w'=>e= .returned (.int .u64 (four:Nat))∧InAt w' K s7∧But K w.heap.size w w':=fun w h=>by
  have q:=ZcW K s6 4 (by omega) w h;rw [←hs7] at q;exact q
 have w8:∀w,InAt w K s7→Calls Tryz.prog 58 #[.pointer (some ⟨K,0,none⟩),.int .i64 1] w fun e w'=>e= .returned (.int .u64 (k:Nat))∧InAt w' K s8∧But K w.heap.size w w':=fun w h=>by
  have q:=Zh7 K s7 1 (by omega) w h;rw [←hs8] at q;exact q
 have w9:∀w,InAt w K s8→Calls Tryz.prog 59 #[.pointer (some ⟨K,0,none⟩),.int .i64 (k:Nat)] w fun e w'=>e= .returned (.string (B la))∧InAt w' K s9∧But K w.heap.size w w':=fun w h=>by
  have q:=ZdA K s8 k (by omega) (by omega) w h;rw [Int.toNat_natCast,←hs9] at q;exact q
 have w10:∀w,InAt w K s9→Calls Tryz.prog 59 #[.pointer (some ⟨K,0,none⟩),.int .i64 (Zc la:Nat)] w fun e w'=>e= .returned (.string (B bo))∧InAt w' K s10∧But K w.heap.size w w':=fun w h=>by
  have q:=ZdA K s9 (Zc la) (by omega) (by omega) w h;rw [Int.toNat_natCast,←hs10] at q;exact q
 have wt:=fun w=>Zh4 la (by omega) w;have wf:=fun w h=>ZbQ K s10 w h;have wl:=fun w h=>ZfB K s w h;have wf0:=fun w h=>ZbQ K s w h;obtain⟨fl,hfl⟩:∃fl:UInt8,f=fl.toNat:=⟨UInt8.ofNat f,by simp;omega⟩
 have hfl2:UInt8.ofNat f=fl:=by rw [hfl];simp
 rw [hfl2] at hfit⊢;have hwf:IntKind.u8.wrap (f:Int)=fl.toNat:=by rw [IntKind.wrap_u8];omega
 have hws:IntKind.u32.wrap (ser:Int)=ser:=by rw [IntKind.wrap_u32];omega
 have hwn:IntKind.u32.wrap (num:Int)=num:=by rw [IntKind.wrap_u32];omega
 have hwk:IntKind.i64.wrap (k:Int)=k:=by rw [IntKind.wrap_i64];omega
 have hb0:∀w,Calls Tryz.prog 8 #[.agg #[.int .i64 s.e,.int .i64 s.a]] w fun e w'=>e= .returned (.bool false)∧Below w.heap.size w w':=fun w=>ZT _ _ (by omega) w;have hl0:((s.left:Int)==0)=false:=by rw [beq_eq_false_iff_ne];omega
 have HR:Hid (∃P,P=ZfJ w K (if s10.e≠0 then(none,s10) else if Zp (ZP ⟨fl,pos,ser,num,la,bo⟩ [0,0,0,0])≠four then(none,s10.fail 1 s6.at_) else(some ⟨fl,pos,ser,num,la,bo⟩,s10))):=Lib.hid ⟨_,rfl⟩;obtain⟨P,hP⟩:=HR.out;rw [←hP];have R0:=Lib.hid ((Rb.start h).new pgZ 27);unfold pgZ at R0;have HP:=Lib.hid hP;have Hfit:=Lib.hid hfit;have hK:=h.lt;clear hR hs1 hs2 hs3 hs4 hs5 hs6 hs7 hs8 hs9 hs10 h h0 hP HR hfl2 hfit;go_enter Tryz.func110,Tryz.ntmps110
 go_upto_if 61 with(first
  |(go_at_call 121;(with_reducible refine(wl _ R0b.out.inn).mono ?_);rintro e wx ⟨rfl,hb⟩;have R0c:=Lib.hid (R0b.out.below hb);clear hb)
  |(go_at_call 55;first|((with_reducible refine(wf0 _ R0.out.inn).mono ?_);rintro e wx ⟨rfl,hb⟩;have R0a:=Lib.hid (R0.out.below hb);clear hb)|((with_reducible refine(wf _ R10.out.inn).mono ?_);rintro e wx ⟨rfl,hb⟩;have R11:=Lib.hid (R10.out.below hb);clear hb))
  |(go_at_call 8;first|((with_reducible refine(hb0 _).mono ?_);rintro e wx ⟨rfl,hb⟩;have R0b:=Lib.hid (R0a.out.below hb);clear hb)|fail)
  |(go_at_call 53;(with_reducible refine(w1 _ R0c.out.inn).mono ?_);rintro e wx ⟨⟨bb,rfl⟩,hi,hb⟩;have R1:=Lib.hid (R0c.out.rd hi hb);clear hi hb)
  |(go_at_call 53;(with_reducible refine(w2 _ R1.out.inn).mono ?_);rintro e w2x ⟨⟨bb2,rfl⟩,hi,hb⟩;have R2q:=R1.out.rd hi hb;have hP4n:w.heap.size<w2x.heap.size:=R2q.b0.lt;have R2:=Lib.hid (R2q.new #[.int .u8 0,.int .u64 0,.int .u32 0,.int .u32 0,.string ⟨#[]⟩,.string ⟨#[]⟩] 27);clear hi hb R2q)
  |(go_at_call 58;(with_reducible refine(w3 _ R2.out.inn).mono ?_);rintro e wx ⟨rfl,hi,hb⟩;have T:=R2.out.rd hi hb;have tc:=T.b0.cell 0;have tf:=T.b0.free 0;have tl:=T.b0.lt;have tn:w.heap.size≠w2x.heap.size:=(by omega);have R3:=Lib.hid (T.put (by intro x hx;simp only [List.mem_singleton] at hx;subst hx;exact tn) 0 (.int .u8 fl.toNat));clear hi hb T)
  |(go_at_call 119;(with_reducible refine(w4 _ R3.out.inn).mono ?_);rintro e wx ⟨rfl,hi,hb⟩;have T:=R3.out.rd hi hb;have tc:=T.b0.cell 1;have tf:=T.b0.free 1;have tl:=T.b0.lt;have tn:w.heap.size≠w2x.heap.size:=(by omega);have R4:=Lib.hid (T.put (by intro x hx;simp only [List.mem_singleton] at hx;subst hx;exact tn) 1 (.int .u64 (pos:Nat)));clear hi hb T)
  |(go_at_call 119;(with_reducible refine(w5 _ R4.out.inn).mono ?_);rintro e wx ⟨rfl,hi,hb⟩;have T:=R4.out.rd hi hb;have tc:=T.b0.cell 2;have tf:=T.b0.free 2;have tl:=T.b0.lt;have tn:w.heap.size≠w2x.heap.size:=(by omega);have R5:=Lib.hid (T.put (by intro x hx;simp only [List.mem_singleton] at hx;subst hx;exact tn) 2 (.int .u32 (ser:Nat)));clear hi hb T)
  |(go_at_call 119;(with_reducible refine(w6 _ R5.out.inn).mono ?_);rintro e wx ⟨rfl,hi,hb⟩;have T:=R5.out.rd hi hb;have tc:=T.b0.cell 3;have tf:=T.b0.free 3;have tl:=T.b0.lt;have tn:w.heap.size≠w2x.heap.size:=(by omega);have R6:=Lib.hid (T.put (by intro x hx;simp only [List.mem_singleton] at hx;subst hx;exact tn) 3 (.int .u32 (num:Nat)));clear hi hb T)
  |(go_at_call 57;(with_reducible refine(wa _ R6.out.inn).mono ?_);rintro e wx ⟨rfl,rfl⟩)
  |(go_at_call 119;(with_reducible refine(w7 _ R6.out.inn).mono ?_);rintro e wx ⟨rfl,hi,hb⟩;have R7:=Lib.hid (R6.out.rd hi hb);clear hi hb)
  |(go_at_call 58;(with_reducible refine(w8 _ R7.out.inn).mono ?_);rintro e wx ⟨rfl,hi,hb⟩;have R8:=Lib.hid (R7.out.rd hi hb);clear hi hb)
  |(go_at_call 59;(with_reducible refine(w9 _ R8.out.inn).mono ?_);rintro e wx ⟨rfl,hi,hb⟩;have T:=R8.out.rd hi hb;have tc:=T.b0.cell 4;have tf:=T.b0.free 4;have tl:=T.b0.lt;have tn:w.heap.size≠w2x.heap.size:=(by omega);have R9:=Lib.hid (T.put (by intro x hx;simp only [List.mem_singleton] at hx;subst hx;exact tn) 4 (.string (B la)));clear hi hb T)
  |(go_at_call 83;(with_reducible refine(wt _).mono ?_);rintro e wx ⟨rfl,rfl⟩)
  |(go_at_call 59;(with_reducible refine(w10 _ R9.out.inn).mono ?_);rintro e wx ⟨rfl,hi,hb⟩;have T:=R9.out.rd hi hb;have tc:=T.b0.cell 5;have tf:=T.b0.free 5;have tl:=T.b0.lt;have tn:w.heap.size≠w2x.heap.size:=(by omega);have R10:=Lib.hid (T.put (by intro x hx;simp only [List.mem_singleton] at hx;subst hx;exact tn) 5 (.string (B bo)));clear hi hb T))
 by_cases he:s10.e=0
 · have hbn:=fun w=>ZT (s10.e:Int) s10.a (by omega) w;have hps:=fun w=>Zh3 ⟨fl,pos,ser,num,la,bo⟩ Hfit.out w;obtain⟨C,hC⟩:∃C,C=Zp (ZP ⟨fl,pos,ser,num,la,bo⟩ [0,0,0,0]):=⟨_,rfl⟩
   have hCl:C<4294967296:=by rw [hC];exact Zgd _
   rw [←hC] at hps;have HP2:=HP.out;rw [if_neg (by omega),←hC] at HP2;clear HP hC he Hfit;unfold pgA at hps;have hCw:IntKind.u64.wrap (C:Int)=C:=by rw [IntKind.wrap_u64];omega
   refine(hbn _).mono ?_;rintro e wb ⟨rfl,hb⟩;have R12:=Lib.hid (R11.out.below hb);clear hb;have BP:Bx wb w2x.heap.size #[.int .u8 fl.toNat,.int .u64 (pos:Nat),.int .u32 (ser:Nat),.int .u32 (num:Nat),.string (B la),.string (B bo)] 27:=R12.out.b0;obtain⟨p0,p1,p2,p3,p4,p5⟩:=BP.six;by_cases hc:C=four
   · have q1:((C:Int)==four)=true:=by simp;omega
     have q2:((C:Int) !=four)=false:=by simp;omega
     rw [if_neg (fun h=>h hc)] at HP2;have HP3:Hid (∀w',InAt w' K s10→But K w.heap.size w w'→P (.returned (.tuple #[.agg #[.int .u8 fl.toNat,.int .u64 (pos:Nat),.int .u32 (ser:Nat),.int .u32 (num:Nat),.string (B la),.string (B bo)],.bool true])) w'):=Lib.hid fun w' h1 h2=>by
      rw [HP2];exact⟨h1,h2,rfl,⟨b4,b5,b6,by simp only;omega,by simp only;omega⟩⟩
     clear HP2 hc;go_wp2_with (go_at_call 35;(with_reducible refine(hps _).mono ?_);rintro e wc ⟨rfl,hb⟩;have R13:=Lib.hid (R12.out.below hb);have BC:=BP.below hb;clear p0 p1 p2 p3 p4 p5;obtain⟨p0,p1,p2,p3,p4,p5⟩:=BC.six;clear hb BC;have r0:=R13.out.tl.b0.six;obtain⟨r0,r1,r2,r3,r4,r5⟩:=r0;have rf:=R13.out.tl.b0.free;have rl:=R13.out.tl.b0.lt)
     have F:=R13.out.tl.fin6 (.int .u8 fl.toNat) (.int .u64 (pos:Nat)) (.int .u32 (ser:Nat)) (.int .u32 (num:Nat)) (.string (B la)) (.string (B bo));refine bodyPost_ret (results_cell_tmp rfl _ _ w.heap.size _ _ _ _ _ rfl rfl F.1 Tryz.underlying27 rfl (by kernel_rfl)) rfl ?_;exact HP3.out _ F.2.1 F.2.2
   · have q1:((C:Int)==four)=false:=by rw [beq_eq_false_iff_ne];omega
     have q2:((C:Int) !=four)=true:=by simp;omega
     rw [if_pos hc] at HP2;have HP3:Hid (∀w',InAt w' K (s10.fail 1 s6.at_)→But K w.heap.size w w'→P (.returned (.tuple #[.agg #[.int .u8 0,.int .u64 0,.int .u32 0,.int .u32 0,.string ⟨#[]⟩,.string ⟨#[]⟩],.bool false])) w'):=Lib.hid fun w' h1 h2=>by
      rw [HP2];exact⟨h1,h2,rfl⟩
     have wff:∀w,InAt w K s10→Calls Tryz.prog 111 #[.pointer (some ⟨K,0,none⟩),.int .i64 1,.int .i64 (s6.at_:Nat)] w fun e w'=>e= .returned (.tuple #[])∧InAt w' K (s10.fail 1 s6.at_)∧But K w.heap.size w w':=fun w h=>by
      have:=Zfz K s10 1 (s6.at_:Nat) (by decide) (by omega) w h;rw [Int.toNat_natCast] at this;exact this
     clear HP2 hc;go_wp2_with (first
      |(go_at_call 35;(with_reducible refine(hps _).mono ?_);rintro e wc ⟨rfl,hb⟩;have R13:=Lib.hid (R12.out.below hb);clear hb)
      |(go_at_call 111;(with_reducible refine(wff _ R13.out.inn).mono ?_);rintro e wd ⟨rfl,hi,hb⟩;have R14:=Lib.hid (R13.out.rd hi hb);clear hi hb;have r0:=R14.out.tl.b0.six;obtain⟨r0,r1,r2,r3,r4,r5⟩:=r0;have rf:=R14.out.tl.b0.free;have rl:=R14.out.tl.b0.lt))
     have F:=R14.out.tl.fin6 (.int .u8 0) (.int .u64 0) (.int .u32 0) (.int .u32 0) (.string ⟨#[]⟩) (.string ⟨#[]⟩);refine bodyPost_ret (results_cell_tmp rfl _ _ w.heap.size _ _ _ _ _ rfl rfl F.1 Tryz.underlying27 rfl (by kernel_rfl)) rfl ?_;exact HP3.out _ F.2.1 F.2.2
 · have hbn:=fun w=>Za5 (s10.e:Int) s10.a (by omega) w;have HP2:=HP.out;rw [if_pos he] at HP2;have HP3:Hid (∀w',InAt w' K s10→But K w.heap.size w w'→P (.returned (.tuple #[.agg #[.int .u8 0,.int .u64 0,.int .u32 0,.int .u32 0,.string ⟨#[]⟩,.string ⟨#[]⟩],.bool false])) w'):=Lib.hid fun w' h1 h2=>by
    rw [HP2];exact⟨h1,h2,rfl⟩
   clear HP HP2 he;refine(hbn _).mono ?_;rintro e wb ⟨rfl,hb⟩;have R12:=Lib.hid (R11.out.below hb);clear hb;have r0:=R12.out.tl.b0.six;obtain⟨r0,r1,r2,r3,r4,r5⟩:=r0;have rf:=R12.out.tl.b0.free;have rl:=R12.out.tl.b0.lt;go_wp2_with fail
   have F:=R12.out.tl.fin6 (.int .u8 0) (.int .u64 0) (.int .u32 0) (.int .u32 0) (.string ⟨#[]⟩) (.string ⟨#[]⟩);refine bodyPost_ret (results_cell_tmp rfl _ _ w.heap.size _ _ _ _ _ rfl rfl F.1 Tryz.underlying27 rfl (by kernel_rfl)) rfl ?_;exact HP3.out _ F.2.1 F.2.2
end Go.Proofs.YtnbkfkbcpfkddaaGreatDoor
