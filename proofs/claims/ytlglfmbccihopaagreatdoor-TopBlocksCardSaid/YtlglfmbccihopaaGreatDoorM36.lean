/- Lemmas for a statement on the tops; conditions: as each says. -/
import Derived.Test.YtlglfmbccihopaaGreatDoorM35
set_option linter.unusedVariables false
set_option linter.unusedSimpArgs false
set_option maxRecDepth 100000
set_option maxHeartbeats 4000000
namespace Go.Proofs.YtlglfmbccihopaaGreatDoor
open Go Go.RowKit
theorem Zj8 (at_:Int)(okb:Bool):∀(ms:List Mx) (n:Nat) (nt b:Bool),ckM at_ okb n nt ms=some b→∀m∈ms,m.kind=4→okb=true
 |[],_,_,_,_,m,hm,_=>by simp at hm
 |x::r,n,nt,b,h,m,hm,h4=>by
  rw [Zj7] at h;split at h
  · cases h
  · split at h
    · cases h
    · split at h
      · next h3=>
        rcases List.mem_cons.1 hm with e|e
        · subst e;exact absurd h4 h3
        · exact Zj8 at_ okb r _ _ b h m e h4
      · split at h
        · cases h
        · split at h
          · cases h
          · next h6=>simpa using h6
theorem Zfk (n:Nat):ZL n 1=[UInt8.ofNat n]:=by
 simp only [ZL,Nat.pow_zero,Nat.div_one];congr 1
 apply UInt8.toNat_inj.1
 rw [UInt8.toNat_ofNat',UInt8.toNat_ofNat'];omega
def hdM (ms:List Mx)(i:Nat)(m:Mx):Nat:=m.kind.toNat+if i+1=ms.length then 128 else 0
def ZdN (k:Bk)(ms:List Mx)(i:Nat)(m:Mx):List (List UInt8):=[[UInt8.ofNat (hdM ms i m)],ZL (Zn k m.mt).length 3,Zn k m.mt]
def Zat (k:Bk)(ms:List Mx):Nat→List (List UInt8)
 |0=>[Zae]
 |i+1=>Zat k ms i++(match ms[i]? with|some m=>ZdN k ms i m|none=>[])
theorem Zmj (k:Bk)(ms:List Mx):∀i,(Zat k ms i).length≤1+3*i
 |0=>Nat.le_refl _
 |i+1=>by
  have:=Zmj k ms i;unfold Zat;rw [List.length_append];split
  · show _+3≤_;omega
  · simp only [List.length_nil];omega
theorem Zsp (k:Bk)(m:Mt)(r:List Mt):Zag k (m::r)=UInt8.ofNat (m.kind+if r=[] then 128 else 0)::(ZL (Zn k m).length 3++(Zn k m++Zag k r)):=rfl
theorem Zmi (k:Bk)(ms:List Mx):∀i,i≤ms.length→(Zat k ms i).flatten++Zag k ((ms.drop i).map Mx.mt)=Zae++Zag k (ms.map Mx.mt)
 |0,_=>by simp [Zat]
 |i+1,h=>by
  have ih:=Zmi k ms i (by omega);rw [←ih];have hd:ms.drop i=ms[i]::ms.drop (i+1):=List.drop_eq_getElem_cons (by omega);have hg:ms[i]? =some ms[i]:=List.getElem?_eq_getElem (by omega);rw [hd];have hp:Zat k ms (i+1)=Zat k ms i++ZdN k ms i ms[i]:=by show Zat k ms i++_=_;rw [hg]
  rw [hp,List.map_cons];have hz:((ms.drop (i+1)).map Mx.mt=[])↔i+1=ms.length:=by
   rw [List.map_eq_nil_iff,List.drop_eq_nil_iff];omega
  rw [Zsp];unfold ZdN hdM;rw [show ms[i].mt.kind=ms[i].kind.toNat from rfl];have hi:(if(ms.drop (i+1)).map Mx.mt=[] then 128 else 0)=(if i+1=ms.length then 128 else 0):=by
   by_cases e:i+1=ms.length
   · rw [if_pos e,if_pos (hz.2 e)]
   · rw [if_neg e,if_neg (fun q=>e (hz.1 q))]
  rw [hi];simp
theorem Zsf (k:Bk)(ms:List Mx)(sound:List UInt8):(Zat k ms ms.length++[sound]).flatten=ZcS k (ms.map Mx.mt) sound:=by
 have:=Zmi k ms ms.length (Nat.le_refl _);rw [List.drop_length] at this;unfold ZcS;rw [List.flatten_append,←List.append_assoc,←this];simp [Zag]
def fpX (ms:List Mx)(v:List UInt8)(ns:List Nx)(at_:Int)(sound:List UInt8):Option (List UInt8):=if ZY ms v ns at_ then some (ZN ms v ns sound) else none
def FpRelF (w0:World)(FA:Array Value)(k:Bk)(ms:List Mx)(vl i:Value)(wx:World):Prop:=∃j:Nat,j≤ms.length∧i= .int .i64 j∧FkSt w0 wx FA∧OwS w0 wx vl (Zat k ms j)
theorem ZiZ (ms:List Mx)(v:List UInt8)(vs:Int)(ns:List Nx)(at_:Int)(sound:List UInt8)(A AN:Option Addr)(c cN:Nat)(hl:LightX ms v ns sound)(w:World)(hG:Grd w)(h:RdN 2 mxV w w.heap.size A ms)(h2:RdN 3 nxV w w.heap.size AN ns):
 Calls Tryz.prog 7 #[.agg (flV (.slice A ms.length c) v vs (.slice AN ns.length cN) at_ sound)] w (CpV w (fpX ms v ns at_ sound)):=by
 have hv:v.length≤100000:=by have:=hl.vend;omega
 have hn:∀n∈ns,n.name.length≤100000∧n.text.length≤100000:=fun n hm=>by have:=hl.note n hm;omega
 have hcl:=Zf0 hl.nsl hl.vend hl.note;have hfl:=Zh1 hl;have hck:∀wx,Below w.heap.size w wx→Calls Tryz.prog 17 #[.agg (flV (.slice A ms.length c) v vs (.slice AN ns.length cN) at_ sound)] wx (CkV wx (ZY ms v ns at_)):=fun wx hb=>Zoa ms v vs ns at_ sound A AN c cN hv hn wx (hG.below hb) ((h.below hb).more hb.size) ((h2.below hb).more hb.size);have hcp:ckC v ns=true→∀wx,Below w.heap.size w wx→Calls Tryz.prog 18 #[.agg #[.string (B v),.int .i64 vs,.slice AN ns.length cN],.bool false] wx fun e w'=>Below wx.heap.size wx w'∧e= .returned (.tuple #[.string (B (ZT false (bkX v ns))),.agg #[.int .i64 0,.int .i64 0]]):=fun hc wx hb=>by
  have:=ZnM false v vs AN cN ns hv hn (by omega) wx (hG.below hb) ((h2.below hb).more hb.size);unfold cpR CpV at this;rw [if_pos hc] at this;exact this
 have ST0:=Lib.hid (FkSt.mk0 w (flV (.slice A ms.length c) v vs (.slice AN ns.length cN) at_ sound));have HR:=Lib.hid h;have hms:=hl.msl;have hso:=hl.snd;have hsz:=Zt sound;have HBD:=Lib.hid hl.body;unfold fpX;clear h hG h2 hn hl hv;unfold flV at*;obtain⟨⟨c0,c1,c2,c3,c4,c5⟩,⟨r0,r1⟩,rf,l1,l2⟩:=ST0.out.cells;cases hb:ZY ms v ns at_ with
 |false=>
  rw [hb] at hck;unfold CkV at hck;have hbf:=fun(n a:Int) (h:1≤n) w=>ZcB n a (by omega) w;have HPf:Hid (∀(n a:Int) w',1≤n→Below w.heap.size w w'→CpV w none (.returned (.tuple #[.string ⟨#[]⟩,.agg #[.int .i64 n,.int .i64 a]])) w'):=Lib.hid fun n a w' h1 hb=>⟨hb,n,a,h1,rfl⟩
  show Calls _ _ _ _ (CpV w none)
  generalize CpV w none=P at*;clear hb HR hcp hcl hfl HBD;go_enter Tryz.func7,Tryz.ntmps7
  go_upto_region 3 with(first
   |(go_at_call 17;refine(hck _ ST0.out.low).mono ?_;rintro e w1 ⟨n,a,rfl,h1,hb1⟩;have ST1:=Lib.hid (ST0.out.below hb1);clear hb1 hck;have H1:1≤n:=h1;clear h1)
   |(go_at_call 8;refine(hbf _ _ H1 _).mono ?_;rintro e w2 ⟨rfl,hb2⟩;have NB:=Lib.hid ((Bx.new w1 #[.int .i64 n,.int .i64 a] 39).below hb2);have z0:=NB.out.cell 0;have z1:=NB.out.cell 1;have ST2:=Lib.hid ((ST1.out.alloc _).below hb2);clear hb2 c0 c1 c2 c3 c4 c5 r0 r1 rf l1 l2;obtain⟨⟨c0,c1,c2,c3,c4,c5⟩,⟨r0,r1⟩,rf,l1,l2⟩:=ST2.out.cells))
  go_region
  all_goals
   go_wp2_with fail
   have F:=FkSt.fin ST2.out (.int .i64 n) (.int .i64 a);refine bodyPost_ret (ZeB rfl _ _ (w.heap.size+1) _ _ _ _ _ rfl rfl F.1 Tryz.underlying39 rfl (by kernel_rfl)) rfl ?_;exact HPf.out n a _ H1 F.2.drew
 |true=>
  rw [hb] at hck;unfold CkV at hck;have hbt:=fun w=>ZaG 0 0 rfl w;have hcm:∀m∈ms,m.kind=4→ckC v ns=true:=by
   unfold ZY at hb;rw [Bool.and_eq_true] at hb;have hb2:=hb.2;split at hb2
   · cases hb2
   · next b hcm=>exact Zj8 at_ (ckC v ns) ms 0 false b hcm
  have HCM:=Lib.hid hcm;have HCP:=Lib.hid hcp;have HF:=Lib.hid (Zsf (bkX v ns) ms sound);have HPt:Hid (∀w',Below w.heap.size w w'→CpV w (some (ZN ms v ns sound)) (.returned (.tuple #[.string (B (ZN ms v ns sound)),.agg #[.int .i64 0,.int .i64 0]])) w'):=Lib.hid fun w' hb=>⟨hb,rfl⟩
  show Calls _ _ _ _ (CpV w (some (ZN ms v ns sound)))
  generalize CpV w (some (ZN ms v ns sound))=P at*;have HPB:Hid (ZN ms v ns sound=ZcS (bkX v ns) (ms.map Mx.mt) sound):=Lib.hid rfl;generalize ZN ms v ns sound=PB at*;have HCL:Hid ((ZT false (bkX v ns)).length≤7000∧(bkX v ns)=bkX v ns):=Lib.hid ⟨hcl,rfl⟩;have HBK:Hid (∀m∈ms,(Zn (bkX v ns) m.mt).length≤7000∧(m.kind=4→Zn (bkX v ns) m.mt=ZT false (bkX v ns))∧(m.kind≠4→Zn (bkX v ns) m.mt=m.body)):=Lib.hid (fun m hm=>by
   have h5:=HBD.out m hm;by_cases h4:m.kind=4
   · have h4':m.mt.kind=4:=by show m.kind.toNat=4;rw [h4];rfl
     unfold Zn;rw [if_pos h4'];exact⟨hcl,fun _=>rfl,fun h=>absurd h4 h⟩
   · have h4':¬m.mt.kind=4:=fun e=>h4 (UInt8.toNat_inj.1 (by show m.kind.toNat=4;exact e));unfold Zn;rw [if_neg h4'];exact⟨by show m.body.length≤_;omega,fun h=>absurd h h4,fun _=>rfl⟩)
  clear hb hcl hcm hcp HBD HCL;generalize bkX v ns=bk at*;generalize ZT false bk=PC at*;go_enter Tryz.func7,Tryz.ntmps7
  go_wp2_with (first
   |(go_at_call 17;refine(hck _ ST0.out.low).mono ?_;rintro e w1 ⟨n,a,rfl,h1,hb1⟩;obtain⟨rfl,rfl⟩:n=0∧a=0:=h1;have ST1:=Lib.hid (ST0.out.below hb1);clear hb1 hck)
   |(go_at_call 8;refine(hbt _).mono ?_;rintro e w2 ⟨rfl,hb2⟩;have ST2:=Lib.hid ((ST1.out.alloc _).below hb2);clear hb2 c0 c1 c2 c3 c4 c5 r0 r1 rf l1 l2;obtain⟨⟨c0,c1,c2,c3,c4,c5⟩,⟨r0,r1⟩,rf,l1,l2⟩:=ST2.out.cells))
  go_loopw [5,21] (fun vl i wx=>FpRelF w #[.slice A ms.length c,.string (B v),.int .i64 vs,.slice AN ns.length cN,.int .i64 at_,.string (B sound)] bk ms vl i wx) (fun _ i _=>ms.length - (intOf i).toNat)
  case atStart=>exact⟨0,Nat.zero_le _,rfl,ST2.out.alloc _,World.ownsRow_lit (base:=w.heap.size+2) (e:=9) (size:=1) w2 #[.string ⟨#[102,76,97,67]⟩] 1 (by omega) (by decide) rfl⟩
  case round=>
   obtain⟨k,hk,rfl,hst,how⟩:=hrel;obtain⟨_,A4,c4',hv4,hc4⟩:=ZcP how;subst hv4;have ST:=Lib.hid hst;have OW:=Lib.hid how;clear hst how c0 c1 c2 c3 c4 c5 r0 r1 rf l1 l2;obtain⟨⟨c0,c1,c2,c3,c4,c5⟩,⟨r0,r1⟩,rf,l1,l2⟩:=ST.out.cells;have hpl:=Zmj bk ms k;by_cases hlt:k<ms.length
   · obtain⟨m,hk1⟩:∃m,ms[k]? =some m:=⟨_,List.getElem?_eq_getElem hlt⟩
     obtain⟨ad,rfl,hadb,y0,y1⟩:=(HR.out.below ST.out.low).meta hk1;have hmem:=List.mem_of_getElem? hk1;have hbl:ad.block<wr.heap.size:=Nat.lt_of_lt_of_le hadb ST.out.low.size;have hkl:=m.kind.toNat_lt;obtain⟨hb7,hb4,hb5⟩:=HBK.out m hmem;have HCK:=Lib.hid (HCM.out m hmem);have HS:Hid (Zat bk ms (k+1)=Zat bk ms k++ZdN bk ms k m):=Lib.hid (by show Zat bk ms k++_=_;rw [hk1]);have HMP:Hid (ZdN bk ms k m=[[UInt8.ofNat (hdM ms k m)],ZL (Zn bk m.mt).length 3,Zn bk m.mt]):=Lib.hid rfl;generalize ZdN bk ms k m=MP at*;have hq0:IntKind.u64.wrap (m.kind.toNat:Int)=m.kind.toNat:=by rw [IntKind.wrap_u64];omega
     have hq1:IntKind.i64.wrap ((ms.length:Int) - 1)=(ms.length:Int) - 1:=by rw [IntKind.wrap_i64];omega
     have hq2:IntKind.u64.wrap ((m.kind.toNat:Int)+128)=(m.kind.toNat:Int)+128:=by rw [IntKind.wrap_u64];omega
     have HH:Hid (hdM ms k m=m.kind.toNat+if k+1=ms.length then 128 else 0):=Lib.hid rfl;generalize hdM ms k m=hd at*;have HB4:=Lib.hid hb4;have HB5:=Lib.hid hb5;clear hk1 hmem hb4 hb5;generalize Zn bk m.mt=bd at*;have hbz:=Zt bd;have hq3:IntKind.u64.wrap (bd.length:Int)=(bd.length:Nat):=by rw [IntKind.wrap_u64];omega
     have hq4:decide (16777216≤(bd.length:Int))=false:=decide_eq_false (by omega);have hbg3:∀w,Calls Tryz.prog 19 #[.int .u64 (bd.length:Nat),.int .i64 3] w fun e w'=>e= .returned (.string (B (ZL bd.length 3)))∧Below w.heap.size w w':=fun w=>Zd4 bd.length 3 (by omega) (by omega) (by omega) w;have hpl2:(Zat bk ms k).length≤100000:=by omega
     generalize Zat bk ms k=L at*;by_cases hk4:m.kind=4
     · have q1:((m.kind.toNat:Int)==4)=true:=by rw [hk4];rfl
       have hbp:=HB4.out hk4;have hcp2:=HCP.out (HCK.out hk4);rw [←hbp] at hcp2;clear hbp;by_cases hla:k+1=ms.length
       · clear HCM HBK;have q2:((k:Int)==(ms.length:Int) - 1)=true:=by rw [beq_iff_eq];omega
         have hbg1:∀w,Calls Tryz.prog 19 #[.int .u64 ((m.kind.toNat:Int)+128),.int .i64 1] w fun e w'=>e= .returned (.string (B [UInt8.ofNat hd]))∧Below w.heap.size w w':=fun w=>by
          have hh:hd=m.kind.toNat+128:=by rw [HH.out,if_pos (by omega)]
          have:=Zd4 (m.kind.toNat+128) 1 (by omega) (by omega) (by omega) w;rw [hh,←Zfk];exact this
         clear hk4;go_upto_region 19 with(first
          |(go_at_call 18;refine(hcp2 _ (ST.out.alloc _).low).mono ?_;rintro e w3 ⟨hb3,rfl⟩;have MB:=Lib.hid ((Bx.new wr #[.int .u8 m.kind.toNat,.string (B m.body)] 72).below hb3);have ST3:=Lib.hid ((ST.out.alloc _).below hb3);have OW3:=Lib.hid (OwS.below (OwS.below OW.out ((Below.refl _ wr).alloc (Nat.le_refl _) _)) hb3);clear hb3 hcp2 y0 y1)
          |(go_at_call 8;refine(hbt _).mono ?_;rintro e w4 ⟨rfl,hb4⟩;have MC:=Lib.hid ((MB.out.alloc (.cells #[.int .i64 0,.int .i64 0] 39)).below hb4);have z0:=MC.out.cell 0;have z1:=MC.out.cell 1;have zl:=MC.out.lt;have ST4:=Lib.hid ((ST3.out.alloc (.cells #[.int .i64 0,.int .i64 0] 39)).below hb4);have OW4:=Lib.hid (OwS.below (OwS.below OW3.out ((Below.refl _ w3).alloc (Nat.le_refl _) (.cells #[.int .i64 0,.int .i64 0] 39))) hb4);clear hb4 c0 c1 c2 c3 c4 c5 r0 r1 rf l1 l2;obtain⟨⟨c0,c1,c2,c3,c4,c5⟩,⟨r0,r1⟩,rf,l1,l2⟩:=ST4.out.cells))
         go_wp2_with (first
          |(go_at_call 19;(first|((with_reducible refine(hbg1 _).mono ?_);rintro e wb ⟨rfl,hbb⟩)|((with_reducible refine(hbg3 _).mono ?_);rintro e wb ⟨rfl,hbb⟩));first|(have SB1:=Lib.hid (FkSt.below ST4.out hbb);have OB1:=Lib.hid (OwS.below OW4.out hbb))|(have SB2:=Lib.hid (SB1.out.below hbb);have OB2:=Lib.hid (OwS.below OB1.out hbb)))
          |(at_builtin;refine Zfh rfl _ _ rfl (w.heap.size+2) (.slice A4 L.length c4') L [[UInt8.ofNat hd],ZL bd.length 3,bd] rfl wb _ rfl 3 rfl (by omega) (by omega) OB2.out (by have:=SB2.out.res.lt;omega) (by omega) rfl ?_;intro v6 w9 HO6 hb6 hg6;have SX:=Lib.hid (SB2.out.low2 hb6);clear hb6 hg6))
         go_roundw
         case rel=>exact⟨k+1,by omega,by go_num,SX.out,by rw [HS.out,HMP.out];exact HO6.out⟩
         case measure=>simp [intOf];omega
       · clear HCM HBK;have q2:((k:Int)==(ms.length:Int) - 1)=false:=by rw [beq_eq_false_iff_ne];omega
         have hbg1:∀w,Calls Tryz.prog 19 #[.int .u64 (m.kind.toNat:Int),.int .i64 1] w fun e w'=>e= .returned (.string (B [UInt8.ofNat hd]))∧Below w.heap.size w w':=fun w=>by
          have hh:hd=m.kind.toNat:=by rw [HH.out,if_neg (by omega)];rfl
          have:=Zd4 m.kind.toNat 1 (by omega) (by omega) (by omega) w;rw [hh,←Zfk];exact this
         clear hk4;go_upto_region 19 with(first
          |(go_at_call 18;refine(hcp2 _ (ST.out.alloc _).low).mono ?_;rintro e w3 ⟨hb3,rfl⟩;have MB:=Lib.hid ((Bx.new wr #[.int .u8 m.kind.toNat,.string (B m.body)] 72).below hb3);have ST3:=Lib.hid ((ST.out.alloc _).below hb3);have OW3:=Lib.hid (OwS.below (OwS.below OW.out ((Below.refl _ wr).alloc (Nat.le_refl _) _)) hb3);clear hb3 hcp2 y0 y1)
          |(go_at_call 8;refine(hbt _).mono ?_;rintro e w4 ⟨rfl,hb4⟩;have MC:=Lib.hid ((MB.out.alloc (.cells #[.int .i64 0,.int .i64 0] 39)).below hb4);have z0:=MC.out.cell 0;have z1:=MC.out.cell 1;have zl:=MC.out.lt;have ST4:=Lib.hid ((ST3.out.alloc (.cells #[.int .i64 0,.int .i64 0] 39)).below hb4);have OW4:=Lib.hid (OwS.below (OwS.below OW3.out ((Below.refl _ w3).alloc (Nat.le_refl _) (.cells #[.int .i64 0,.int .i64 0] 39))) hb4);clear hb4 c0 c1 c2 c3 c4 c5 r0 r1 rf l1 l2;obtain⟨⟨c0,c1,c2,c3,c4,c5⟩,⟨r0,r1⟩,rf,l1,l2⟩:=ST4.out.cells))
         go_wp2_with (first
          |(go_at_call 19;(first|((with_reducible refine(hbg1 _).mono ?_);rintro e wb ⟨rfl,hbb⟩)|((with_reducible refine(hbg3 _).mono ?_);rintro e wb ⟨rfl,hbb⟩));first|(have SB1:=Lib.hid (FkSt.below ST4.out hbb);have OB1:=Lib.hid (OwS.below OW4.out hbb))|(have SB2:=Lib.hid (SB1.out.below hbb);have OB2:=Lib.hid (OwS.below OB1.out hbb)))
          |(at_builtin;refine Zfh rfl _ _ rfl (w.heap.size+2) (.slice A4 L.length c4') L [[UInt8.ofNat hd],ZL bd.length 3,bd] rfl wb _ rfl 3 rfl (by omega) (by omega) OB2.out (by have:=SB2.out.res.lt;omega) (by omega) rfl ?_;intro v6 w9 HO6 hb6 hg6;have SX:=Lib.hid (SB2.out.low2 hb6);clear hb6 hg6))
         go_roundw
         case rel=>exact⟨k+1,by omega,by go_num,SX.out,by rw [HS.out,HMP.out];exact HO6.out⟩
         case measure=>simp [intOf];omega
     · have q1:((m.kind.toNat:Int)==4)=false:=by rw [beq_eq_false_iff_ne];exact fun h=>hk4 (UInt8.toNat_inj.1 (by show m.kind.toNat=4;omega))
       have hbp:=HB5.out hk4;rw [←hbp] at y1;clear hbp;by_cases hla:k+1=ms.length
       · clear HCM HBK;have q2:((k:Int)==(ms.length:Int) - 1)=true:=by rw [beq_iff_eq];omega
         have hbg1:∀w,Calls Tryz.prog 19 #[.int .u64 ((m.kind.toNat:Int)+128),.int .i64 1] w fun e w'=>e= .returned (.string (B [UInt8.ofNat hd]))∧Below w.heap.size w w':=fun w=>by
          have hh:hd=m.kind.toNat+128:=by rw [HH.out,if_pos (by omega)]
          have:=Zd4 (m.kind.toNat+128) 1 (by omega) (by omega) (by omega) w;rw [hh,←Zfk];exact this
         clear hk4;go_upto_region 19 with fail
         have ST4:=Lib.hid (ST.out.alloc (.cells #[.int .u8 m.kind.toNat,.string (B bd)] 72));have OW4:=Lib.hid (OwS.below OW.out ((Below.refl _ wr).alloc (Nat.le_refl _) (.cells #[.int .u8 m.kind.toNat,.string (B bd)] 72)));go_wp2_with (first
          |(go_at_call 19;(first|((with_reducible refine(hbg1 _).mono ?_);rintro e wb ⟨rfl,hbb⟩)|((with_reducible refine(hbg3 _).mono ?_);rintro e wb ⟨rfl,hbb⟩));first|(have SB1:=Lib.hid (FkSt.below ST4.out hbb);have OB1:=Lib.hid (OwS.below OW4.out hbb))|(have SB2:=Lib.hid (SB1.out.below hbb);have OB2:=Lib.hid (OwS.below OB1.out hbb)))
          |(at_builtin;refine Zfh rfl _ _ rfl (w.heap.size+2) (.slice A4 L.length c4') L [[UInt8.ofNat hd],ZL bd.length 3,bd] rfl wb _ rfl 3 rfl (by omega) (by omega) OB2.out (by have:=SB2.out.res.lt;omega) (by omega) rfl ?_;intro v6 w9 HO6 hb6 hg6;have SX:=Lib.hid (SB2.out.low2 hb6);clear hb6 hg6))
         go_roundw
         case rel=>exact⟨k+1,by omega,by go_num,SX.out,by rw [HS.out,HMP.out];exact HO6.out⟩
         case measure=>simp [intOf];omega
       · clear HCM HBK;have q2:((k:Int)==(ms.length:Int) - 1)=false:=by rw [beq_eq_false_iff_ne];omega
         have hbg1:∀w,Calls Tryz.prog 19 #[.int .u64 (m.kind.toNat:Int),.int .i64 1] w fun e w'=>e= .returned (.string (B [UInt8.ofNat hd]))∧Below w.heap.size w w':=fun w=>by
          have hh:hd=m.kind.toNat:=by rw [HH.out,if_neg (by omega)];rfl
          have:=Zd4 m.kind.toNat 1 (by omega) (by omega) (by omega) w;rw [hh,←Zfk];exact this
         clear hk4;go_upto_region 19 with fail
         have ST4:=Lib.hid (ST.out.alloc (.cells #[.int .u8 m.kind.toNat,.string (B bd)] 72));have OW4:=Lib.hid (OwS.below OW.out ((Below.refl _ wr).alloc (Nat.le_refl _) (.cells #[.int .u8 m.kind.toNat,.string (B bd)] 72)));go_wp2_with (first
          |(go_at_call 19;(first|((with_reducible refine(hbg1 _).mono ?_);rintro e wb ⟨rfl,hbb⟩)|((with_reducible refine(hbg3 _).mono ?_);rintro e wb ⟨rfl,hbb⟩));first|(have SB1:=Lib.hid (FkSt.below ST4.out hbb);have OB1:=Lib.hid (OwS.below OW4.out hbb))|(have SB2:=Lib.hid (SB1.out.below hbb);have OB2:=Lib.hid (OwS.below OB1.out hbb)))
          |(at_builtin;refine Zfh rfl _ _ rfl (w.heap.size+2) (.slice A4 L.length c4') L [[UInt8.ofNat hd],ZL bd.length 3,bd] rfl wb _ rfl 3 rfl (by omega) (by omega) OB2.out (by have:=SB2.out.res.lt;omega) (by omega) rfl ?_;intro v6 w9 HO6 hb6 hg6;have SX:=Lib.hid (SB2.out.low2 hb6);clear hb6 hg6))
         go_roundw
         case rel=>exact⟨k+1,by omega,by go_num,SX.out,by rw [HS.out,HMP.out];exact HO6.out⟩
         case measure=>simp [intOf];omega
   · obtain rfl:k=ms.length:=by omega
     have hfl2:(Zat bk ms ms.length++[sound]).flatten=PB:=by rw [HF.out,HPB.out]
     have hpl2:(Zat bk ms ms.length).length≤100000:=by omega
     have hj:∀wx v6,OwS w wx v6 (Zat bk ms ms.length++[sound])→Calls Tryz.prog 20 #[v6] wx fun e w'=>e= .returned (.string (B PB))∧Below wx.heap.size wx w':=by
      intro wx v6 h;rw [←hfl2];exact ZgE h (by rw [hfl2];omega) (by rw [List.length_append];simp;omega)
     clear hfl2 hpl HBK HCM;generalize Zat bk ms ms.length=L at*;go_wp2_with (first
      |(at_builtin;refine ZjO rfl _ _ rfl (w.heap.size+2) (.slice A4 L.length c4') L rfl wr sound OW.out (by omega) (by omega) rfl ?_;intro v6 w9 HO6 hb6 hg6;have SX:=Lib.hid (ST.out.low2 hb6);clear hb6 hg6 c0 c1 c2 c3 c4 c5 r0 r1 rf l1 l2;obtain⟨⟨c0,c1,c2,c3,c4,c5⟩,⟨r0,r1⟩,rf,l1,l2⟩:=SX.out.cells)
      |(go_at_call 20;refine(hj _ _ HO6.out).mono ?_;rintro e w3 ⟨rfl,hb3⟩;have S3:=Lib.hid (SX.out.below hb3);clear hb3 c0 c1 c2 c3 c4 c5 r0 r1 rf l1 l2;obtain⟨⟨c0,c1,c2,c3,c4,c5⟩,⟨r0,r1⟩,rf,l1,l2⟩:=S3.out.cells))
     have F:=S3.out.fin (.int .i64 0) (.int .i64 0);refine bodyPost_ret (ZeB rfl _ _ (w.heap.size+1) _ _ _ _ _ rfl rfl F.1 Tryz.underlying39 rfl (by kernel_rfl)) rfl ?_;exact HPt.out _ F.2
theorem Ztf (w:World):(Instr.index 102 (.agg #[.string ⟨#[73,68,51]⟩,.int .i64 1,.string ⟨#[79,103,103,83]⟩,.int .i64 2,.string ⟨#[102,76,97,67]⟩,.int .i64 3]) (.int .i64 1)).run Tryz.prog w= .ok (.agg #[.string ⟨#[79,103,103,83]⟩,.int .i64 2]) w:=by
 obtain⟨info,h1,h2⟩:=Option.map_eq_some_iff.1 (show(Tryz.prog.info? 101).map (·.size)=some 2 by kernel_rfl);have hs:(Go.sizeOf 101).run Tryz.prog w= .ok 2 w:=by simp [Go.sizeOf,Ev.run_ti h1,h2]
 simp [Instr.index,asIntOf,Ev.run_und Tryz.underlying102,hs,part]
theorem Ztg (w:World):(Instr.index 102 (.agg #[.string ⟨#[73,68,51]⟩,.int .i64 1,.string ⟨#[79,103,103,83]⟩,.int .i64 2,.string ⟨#[102,76,97,67]⟩,.int .i64 3]) (.int .i64 2)).run Tryz.prog w= .ok (.agg #[.string ⟨#[102,76,97,67]⟩,.int .i64 3]) w:=by
 obtain⟨info,h1,h2⟩:=Option.map_eq_some_iff.1 (show(Tryz.prog.info? 101).map (·.size)=some 2 by kernel_rfl);have hs:(Go.sizeOf 101).run Tryz.prog w= .ok 2 w:=by simp [Go.sizeOf,Ev.run_ti h1,h2]
 simp [Instr.index,asIntOf,Ev.run_und Tryz.underlying102,hs,part]
theorem Zom (r:List UInt8)(w:World)(hS:ZgP w):
 Calls Tryz.prog 21 #[.string (B (Zae++r))] w fun e w'=>e= .returned (.tuple #[.int .i64 3,.bool true])∧Below w.heap.size w w':=by
 have h1:∀w,Calls Tryz.prog 35 #[.string (B (Zae++r)),.string ⟨#[73,68,51]⟩] w fun e w'=>e= .returned (.bool false)∧w=w':=fun w=>(Tryz.strings_HasPrefix (B (Zae++r)) _ w).mono fun e w' h=>⟨by rw [h.1,Zbn];rfl,h.2.symm⟩
 have h2:∀w,Calls Tryz.prog 35 #[.string (B (Zae++r)),.string ⟨#[79,103,103,83]⟩] w fun e w'=>e= .returned (.bool false)∧w=w':=fun w=>(Tryz.strings_HasPrefix (B (Zae++r)) _ w).mono fun e w' h=>⟨by rw [h.1,Zbn];rfl,h.2.symm⟩
 have h3:∀w,Calls Tryz.prog 35 #[.string (B (Zae++r)),.string ⟨#[102,76,97,67]⟩] w fun e w'=>e= .returned (.bool true)∧w=w':=fun w=>(Tryz.strings_HasPrefix (B (Zae++r)) _ w).mono fun e w' h=>⟨by rw [h.1,Zbn];rfl,h.2.symm⟩
 generalize Zae++r=l at*;have hu:=Tryz.underlying102;go_enter Tryz.func21,Tryz.ntmps21
 go_wp2_with (refine wpList_load_mid rfl 102 _ rfl 0 0 rfl Zin _ hS hu rfl (by kernel_rfl) ?_;rw [show Zin.toArray=(#[.string ⟨#[73,68,51]⟩,.int .i64 1,.string ⟨#[79,103,103,83]⟩,.int .i64 2,.string ⟨#[102,76,97,67]⟩,.int .i64 3]:Array Value) from rfl])
 clear hu;refine wp_loop_rounds 3 ?_;rw [rounds_succ];go_wp2_with fail
 rename_i hK
 rw [Zte];refine hK _ _ ?_;clear hK;go_wp2_with (go_at_call 35;refine(h1 _).mono ?_;rintro e w1 ⟨rfl,rfl⟩)
 rw [rounds_succ];go_wp2_with fail
 rename_i hK
 rw [Ztf];refine hK _ _ ?_;clear hK;go_wp2_with (go_at_call 35;refine(h2 _).mono ?_;rintro e w1 ⟨rfl,rfl⟩)
 rw [rounds_succ];go_wp2_with fail
 rename_i hK
 rw [Ztg];refine hK _ _ ?_;clear hK;go_wp2_with (go_at_call 35;refine(h3 _).mono ?_;rintro e w1 ⟨rfl,rfl⟩)
 go_ret2
 exact⟨rfl,(((Below.refl _ _).alloc (Nat.le_refl _) _).alloc (by simp) _).alloc (by simp;omega) _⟩
def TF (kd:Int)(a b c d e f:Value):Array Value:=#[.int .i64 kd,.int .i64 (0:Nat),.int .u8 (0:UInt8).toNat,.int .u8 (0:UInt8).toNat,.slice none 0 0,.string (B []),
 .int .u8 0,.int .u64 0,.int .u32 0,.int .u32 0,.string ⟨#[]⟩,.string ⟨#[]⟩,.string ⟨#[]⟩,.int .i64 0,.slice none 0 0,.string ⟨#[]⟩,.slice none 0 0,
 a,b,c,d,e,f,.slice none 0 0,.int .i64 0]
theorem Zgi (kd:Int)(a b c d e f:Value)(h:a.oneCell'=true∧b.oneCell'=true∧c.oneCell'=true∧d.oneCell'=true∧e.oneCell'=true∧f.oneCell'=true):(TF kd a b c d e f).all (·.oneCell')=true:=by
 obtain⟨h1,h2,h3,h4,h5,h6⟩:=h;unfold TF;simp [h1,h2,h3,h4,h5,h6]
 repeat (first|exact rfl|refine And.intro rfl ?_)
theorem tf_kd (kd k2:Int)(a b c d e f:Value):(TF kd a b c d e f).setIfInBounds 0 (.int .i64 k2)=TF k2 a b c d e f:=rfl
theorem Zpq (T:Array Value)(a b c d e f:Value)(hT:T=TF 3 a b c d e f)(s:ByteArray)(w:World)
 (h:∀wx,Below w.heap.size w wx→Calls Tryz.prog 7 #[.agg #[a,b,c,d,e,f]] wx fun e w'=>e= .returned (.tuple #[.string s,.agg #[.int .i64 0,.int .i64 0]])∧Below wx.heap.size wx w'):
 Calls Tryz.prog 26 #[.agg T] w fun e w'=>e= .returned (.tuple #[.string s,.agg #[.int .i64 0,.int .i64 0]])∧Below w.heap.size w w':=by
 have hk:T[0]? =some (.int .i64 3):=by rw [hT];rfl
 have hs:T.size=25:=by rw [hT];rfl
 have hB0:Below w.heap.size w ((w.alloc (.cells T 56)).alloc (.cells #[.int .i64 0,.int .i64 0] 39)):=((Below.refl _ _).alloc (Nat.le_refl _) _).alloc (by simp) _;have HB0:=Lib.hid hB0;have h2:=h _ hB0;have bx:Bx ((w.alloc (.cells T 56)).alloc (.cells #[.int .i64 0,.int .i64 0] 39)) w.heap.size T 56:=(Bx.new w _ _).alloc _;have Hm:Hid (((w.alloc (.cells T 56)).alloc (.cells #[.int .i64 0,.int .i64 0] 39)).rangeAt w.heap.size 17 [a,b,c,d,e,f]):=Lib.hid (fun j u hu=>by
  have hj:=(List.getElem?_eq_some_iff.1 hu).1;rw [bx.cell (17+j),hT];rw [←hu]
  match j,hj with
  |0,_=>rfl
  |1,_=>rfl
  |2,_=>rfl
  |3,_=>rfl
  |4,_=>rfl
  |5,_=>rfl)
 have c0:((w.alloc (.cells T 56)).alloc (.cells #[.int .i64 0,.int .i64 0] 39)).cell? ⟨w.heap.size,0,none⟩=some (.int .i64 3):=by rw [bx.cell 0,hk]
 clear h hB0 hT hk;go_enter Tryz.func26,Tryz.ntmps26
 go_wp2_with (first
  |(refine wpList_load_mid rfl 30 _ rfl w.heap.size 17 rfl [a,b,c,d,e,f] _ Hm.out Tryz.underlying30 rfl (by kernel_rfl) ?_)
  |(go_at_call 7;refine h2.mono ?_;clear h2;rintro e w1 ⟨rfl,hb⟩;have hq:=F2 hb;rw [World.size_alloc] at hq;have HF:=Lib.hid hq;have HB:=Lib.hid (HB0.out.trans (hb.mono HB0.out.size));obtain⟨q0,q1,f0,f1⟩:=ZbD hq;clear hb hq))
 refine bodyPost_ret (v:= .tuple #[.string s,.agg #[.int .i64 0,.int .i64 0]]) ?_ rfl ⟨rfl,?_⟩
 · have h1:Bx w1 (w.heap.size+1) #[.int .i64 0,.int .i64 0] 39:=HF.out;have h3:=(h1.put 0 (.int .i64 0)).put 1 (.int .i64 0);have p0:=h3.cell 0;have p1:=h3.cell 1;simp only [Array.getElem?_setIfInBounds] at p0 p1;simp [results,Tryz.results26,go_sem,p0,p1]
 · exact(HB.out.setCell (Nat.le_succ _) _).setCell (Nat.le_succ _) _
def Zi2 (f:Fl)(B0:Nat)(T:Array Value)(w:World):Prop:=∃vl vn,T=TF 3 vl (.string (B (Zas f.nt))) (.int .i64 (Zar f.nt:Nat)) vn (.int .i64 (Zaf f.nt)) (.string (B f.sound))∧
 (∃ms:List Mx,ms.map Mx.mt=f.ms∧Zg mxV B0 w vl ms)∧Zg ntV B0 w vn (ntNs f.nt)
structure FoSt (B0:Nat)(f:Fl)(w:World)(vl vn:Value):Prop where
 ms:∃ms:List Mx,ms.map Mx.mt=f.ms∧Zg mxV B0 w vl ms
 ns:Zg ntV B0 w vn (ntNs f.nt)
theorem FoSt.below {B0:Nat} {f:Fl} {w w':World} {vl vn:Value} (h:FoSt B0 f w vl vn)(hb:Below w.heap.size w w'):FoSt B0 f w' vl vn:=by
 obtain⟨⟨ms,h2,h3⟩,h4⟩:=h;exact⟨⟨ms,h2,h3.below hb⟩,h4.below hb⟩
theorem FoSt.but {B0 C:Nat} {f:Fl} {w w':World} {vl vn:Value} (h:FoSt B0 f w vl vn)(hb:But C w.heap.size w w')(hC:C<B0):FoSt B0 f w' vl vn:=by
 obtain⟨⟨ms,h2,h3⟩,h4⟩:=h;exact⟨⟨ms,h2,h3.but hb hC⟩,h4.but hb hC⟩
theorem FoSt.low {B0 B1:Nat} {f:Fl} {w:World} {vl vn:Value} (h:FoSt B0 f w vl vn)(hb:B1≤B0):FoSt B1 f w vl vn:=by
 obtain⟨⟨ms,h2,h3⟩,h4⟩:=h;exact⟨⟨ms,h2,h3.low hb⟩,h4.low hb⟩
theorem FoSt.set {B0:Nat} {f:Fl} {w:World} {vl vn:Value} (h:FoSt B0 f w vl vn){g:Nat} (hg:g<B0)(j:Nat)(u:Value):FoSt B0 f (w.setCell ⟨g,j,none⟩ u) vl vn:=h.but ((But.refl g w.heap.size w).setCell (p:=⟨g,j,none⟩) (.inr rfl) u) hg
theorem but6 (w:World)(K o:Nat)(a b c d e f:Value):But K w.heap.size w ((((((w.setCell ⟨K,o,none⟩ a).setCell ⟨K,o+1,none⟩ b).setCell ⟨K,o+2,none⟩ c).setCell ⟨K,o+3,none⟩ d).setCell ⟨K,o+4,none⟩ e).setCell ⟨K,o+5,none⟩ f):=
 ((((((But.refl K w.heap.size w).setCell (p:=⟨K,o,none⟩) (.inr rfl) a).setCell (p:=⟨K,o+1,none⟩) (.inr rfl) b).setCell (p:=⟨K,o+2,none⟩) (.inr rfl) c).setCell (p:=⟨K,o+3,none⟩) (.inr rfl) d).setCell (p:=⟨K,o+4,none⟩) (.inr rfl) e).setCell (p:=⟨K,o+5,none⟩) (.inr rfl) f
theorem PpSt.fl6 {w wx:World} {F K:Nat} {OA FA:Array Value} (h:PpSt w wx F K OA (T67 0 0 0 0 (.slice none 0 0) []) FA)(a b c d e f:Value):
 PpSt w ((((((wx.setCell ⟨K,17,none⟩ a).setCell ⟨K,18,none⟩ b).setCell ⟨K,19,none⟩ c).setCell ⟨K,20,none⟩ d).setCell ⟨K,21,none⟩ e).setCell ⟨K,22,none⟩ f) F K OA (TF 0 a b c d e f) FA:=
 h.butK (but6 wx K 17 a b c d e f) ((((((h.t.put 17 a).put 18 b).put 19 c).put 20 d).put 21 e).put 22 f)
theorem PpSt.kindF {w wx:World} {F K:Nat} {OA FA:Array Value} {kd k2:Int} {a b c d e f:Value} (h:PpSt w wx F K OA (TF kd a b c d e f) FA):PpSt w (wx.setCell ⟨K,0,none⟩ (.int .i64 k2)) F K OA (TF k2 a b c d e f) FA:=by
 have:=h.t.put 0 (.int .i64 k2);rw [tf_kd] at this;exact h.butK ((But.refl K _ wx).setCell (p:=⟨K,0,none⟩) (.inr rfl) _) this
theorem Zne {w:World} {K:Nat} {T:TypeId} (h:Bx w K (T67 0 0 0 0 (.slice none 0 0) []) T):w.cell? ⟨K,17,none⟩=some (.slice none 0 0)∧w.cell? ⟨K,18,none⟩=some (.string ⟨#[]⟩)∧w.cell? ⟨K,19,none⟩=some (.int .i64 0)∧w.cell? ⟨K,20,none⟩=some (.slice none 0 0)∧w.cell? ⟨K,21,none⟩=some (.int .i64 0)∧w.cell? ⟨K,22,none⟩=some (.string ⟨#[]⟩)∧
 w.frozen? ⟨K,17,none⟩=false∧w.frozen? ⟨K,18,none⟩=false∧w.frozen? ⟨K,19,none⟩=false∧w.frozen? ⟨K,20,none⟩=false∧w.frozen? ⟨K,21,none⟩=false∧w.frozen? ⟨K,22,none⟩=false:=
 ⟨h.cell 17,h.cell 18,h.cell 19,h.cell 20,h.cell 21,h.cell 22,h.free 17,h.free 18,h.free 19,h.free 20,h.free 21,h.free 22⟩
theorem Zoc (b:ByteArray)(kd fb bud:Int)(det:Bool)(f:Fl)(w:World)
 (hk:kd=3∨kd=0∧∀wx,Below w.heap.size w wx→Calls Tryz.prog 21 #[.string b] wx fun e w'=>e= .returned (.tuple #[.int .i64 3,.bool true])∧Below wx.heap.size wx w')
 (hp:∀wx,Below w.heap.size w wx→Calls Tryz.prog 24 #[.string b,.agg #[.int .i64 kd,.int .i64 fb,.bool det,.int .i64 bud]] wx (Zds wx f)):
 Calls Tryz.prog 9 #[.string b,.agg #[.int .i64 kd,.int .i64 fb,.bool det,.int .i64 bud]] w fun e w'=>∃T,e= .returned (.tuple #[.agg T,.agg #[.int .i64 0,.int .i64 0]])∧Zi2 f w.heap.size T w'∧Below w.heap.size w w':=by
 unfold Zds flV at hp;have hbd:=fun w=>ZaG 0 0 rfl w;have S0:=Lib.hid (PgSt.new w #[.int .i64 kd,.int .i64 fb,.bool det,.int .i64 bud]);rcases hk with rfl|⟨rfl,hsn⟩
 · go_enter Tryz.func9,Tryz.ntmps9
   go_upto_region 1 with fail
   generalize hW:(((w.alloc _).alloc _).alloc _)=W0;have S1:Hid (PgSt w W0 (w.heap.size+1+1) _):=Lib.hid (by rw [←hW];exact S0.out);clear S0 hW;generalize w.heap.size+1+1=F at*;have o0:=S1.out.o.cell 0;have o1:=S1.out.o.cell 1;have o2:=S1.out.o.cell 2;have o3:=S1.out.o.cell 3;have hF:=S1.out.hF;have S2:=S1;clear S1;clear o1 o2 o3;go_upto_region 7 with fail
   go_upto_region 8 with(first
    |(refine Znt rfl 56 _ rfl (T67 0 0 0 0 (.slice none 0 0) []) (by kernel_rfl) ?_)
    |(refine Zgn rfl 56 _ _ rfl _ _ (T67 0 0 0 0 (.slice none 0 0) []) 39 rfl rfl (by kernel_rfl) rfl (Znf _ _ _ _ _ _ rfl) fun W3 b3 b4 b5=> ?_;have S3:Hid (PpSt w W3 F _ _ _ _):=Lib.hid ⟨S2.out.below b5,b3,b4,S2.out.f.lt⟩;clear b3 b4 b5;obtain⟨⟨o0,o1,o2,o3⟩,⟨e0,e1,g0,g1⟩,⟨f0,f1,h0,h1⟩⟩:=S3.out.cells))
   generalize W0.heap.size=K at*;have S4:=Lib.hid (S3.out.put2 (.int .i64 5) (.int .i64 0));clear S3 S2 o0 o1 o2 o3 e0 e1 g0 g1 f0 f1 h0 h1;generalize ((W3.setCell ⟨K+1,0,none⟩ (.int .i64 5)).setCell ⟨K+1,1,none⟩ (.int .i64 0))=W4 at*;have hp4:=hp W4 S4.out.s.low;have hK4:=S4.out.t.lt;have hK6:=S4.out.e.lt;have hFK:=S4.out.lt;clear hp;obtain⟨⟨o0,o1,o2,o3⟩,⟨e0,e1,g0,g1⟩,⟨f0,f1,h0,h1⟩⟩:=S4.out.cells;go_upto_region 20 with(go_at_call 24;refine hp4.mono ?_;clear hp4;rintro e w5 ⟨vl,vn,rfl,hms,hns,hb5⟩;have I5:Hid (FoSt W4.heap.size f w5 vl vn):=Lib.hid ⟨hms,hns⟩;obtain⟨A1,n1,c1,hv1⟩:=(show∃A n c,vl= .slice A n c by obtain⟨ms,_,h3⟩:=hms;exact Zbc h3);obtain⟨A2,n2,c2,hv2⟩:=Zbc hns;subst hv1 hv2;have S5:=Lib.hid (S4.out.below hb5);clear hms hns hb5 S4 o0 o1 o2 o3 e0 e1 g0 g1 f0 f1 h0 h1;obtain⟨u17,u18,u19,u20,u21,u22,x17,x18,x19,x20,x21,x22⟩:=Zne S5.out.t;obtain⟨⟨o0,o1,o2,o3⟩,⟨e0,e1,g0,g1⟩,⟨f0,f1,h0,h1⟩⟩:=S5.out.cells)
   have S6:=Lib.hid (S5.out.fl6 (.slice A1 n1 c1) (.string (B (Zas f.nt))) (.int .i64 (Zar f.nt:Nat)) (.slice A2 n2 c2) (.int .i64 (Zaf f.nt)) (.string (B f.sound)));have I6:=Lib.hid (I5.out.but (but6 w5 K 17 (.slice A1 n1 c1) (.string (B (Zas f.nt))) (.int .i64 (Zar f.nt:Nat)) (.slice A2 n2 c2) (.int .i64 (Zaf f.nt)) (.string (B f.sound))) hK4);have S7:=Lib.hid (S6.out.put2 (.int .i64 0) (.int .i64 0));have I7:=Lib.hid ((I6.out.set hK6 0 (.int .i64 0)).set hK6 1 (.int .i64 0));clear S6 I6 S5 I5 o0 o1 o2 o3 e0 e1 g0 g1 f0 f1 h0 h1 u17 u18 u19 u20 u21 u22 x17 x18 x19 x20 x21 x22;generalize (((((((w5.setCell ⟨K,17,none⟩ _).setCell ⟨K,18,none⟩ _).setCell ⟨K,19,none⟩ _).setCell ⟨K,20,none⟩ _).setCell ⟨K,21,none⟩ _).setCell ⟨K,22,none⟩ _).setCell ⟨K+1,0,none⟩ (.int .i64 0)).setCell ⟨K+1,1,none⟩ (.int .i64 0)=W7 at*;obtain⟨⟨o0,o1,o2,o3⟩,⟨e0,e1,g0,g1⟩,⟨f0,f1,h0,h1⟩⟩:=S7.out.cells;go_upto_region 22 with(go_at_call 8;refine(hbd _).mono ?_;rintro e w8 ⟨rfl,hb8⟩;have S8:=Lib.hid (S7.out.below hb8);have I8:=Lib.hid (I7.out.below hb8);clear hb8 S7 I7 o0 o1 o2 o3 e0 e1 g0 g1 f0 f1 h0 h1)
   have t0:=S8.out.t.cell 0;rw [show(TF 0 (.slice A1 n1 c1) (.string (B (Zas f.nt))) (.int .i64 (Zar f.nt:Nat)) (.slice A2 n2 c2) (.int .i64 (Zaf f.nt)) (.string (B f.sound)))[0]? =some (.int .i64 0) from rfl] at t0;have tf:=S8.out.t.free 0;go_upto_region 23 with fail
   have S9:=Lib.hid (S8.out.kindF (k2:=3));have I9:=Lib.hid (I8.out.set hK4 0 (.int .i64 3));clear S8 I8 t0 tf;generalize (w8.setCell ⟨K,0,none⟩ (.int .i64 3))=W9 at*;have hF9:=S9.out.s.hF;have hw9:=S9.out.s.o.lt;go_wp2_with (first
    |(refine wpList_load_row rfl 56 _ rfl K rfl 56 (TF 3 (.slice A1 n1 c1) (.string (B (Zas f.nt))) (.int .i64 (Zar f.nt:Nat)) (.slice A2 n2 c2) (.int .i64 (Zaf f.nt)) (.string (B f.sound))) (0,0) _ S9.out.t Tryz.underlying56 rfl (by kernel_rfl) ?_)
    |(refine Znu rfl 56 _ _ rfl (w.heap.size+1) (T67 0 0 0 0 (.slice none 0 0) []) (TF 3 (.slice A1 n1 c1) (.string (B (Zas f.nt))) (.int .i64 (Zar f.nt:Nat)) (.slice A2 n2 c2) (.int .i64 (Zaf f.nt)) (.string (B f.sound))) rfl rfl S9.out.s.z (by kernel_rfl) rfl (Zgi _ _ _ _ _ _ _ ⟨rfl,rfl,rfl,rfl,rfl,rfl⟩) fun W bW hW=> ?_;have BW:=Lib.hid bW;have HW:=Lib.hid hW;have FW:=Lib.hid (S9.out.s.f.but hW (by omega));have e0:=FW.out.cell 0;have e1:=FW.out.cell 1;have g0:=FW.out.free 0;have g1:=FW.out.free 1;clear bW hW))
   have FX:=Zcn FW.out (.int .i64 0) (.int .i64 0);have TX:=(BW.out.set (k:=F) (by omega) 0 (.int .i64 0)).set (k:=F) (by omega) 1 (.int .i64 0);have IX:=(((I9.out.but HW.out (by omega)).set (g:=F) (by omega) 0 (.int .i64 0)).set (g:=F) (by omega) 1 (.int .i64 0)).low (B1:=w.heap.size) (by omega);refine bodyPost_ret (Zh6 rfl _ _ (w.heap.size+1) F _ _ _ _ _ _ _ _ rfl rfl TX FX Tryz.underlying56 rfl (by kernel_rfl) Tryz.underlying39 rfl (by kernel_rfl)) rfl ⟨_,rfl,⟨_,_,rfl,IX.ms,IX.ns⟩,?_⟩;exact((S9.out.s.low.trans ((HW.out.mono S9.out.s.low.size).below (by omega))).setCell (p:=⟨F,0,none⟩) (by show w.heap.size≤F;omega) _).setCell (p:=⟨F,1,none⟩) (by show w.heap.size≤F;omega) _
 · go_enter Tryz.func9,Tryz.ntmps9
   go_upto_region 1 with fail
   generalize hW:(((w.alloc _).alloc _).alloc _)=W0;have S1:Hid (PgSt w W0 (w.heap.size+1+1) _):=Lib.hid (by rw [←hW];exact S0.out);clear S0 hW;generalize w.heap.size+1+1=F at*;have o0:=S1.out.o.cell 0;have o1:=S1.out.o.cell 1;have o2:=S1.out.o.cell 2;have o3:=S1.out.o.cell 3;have hF:=S1.out.hF;go_upto_region 7 with(go_at_call 21;refine(hsn _ S1.out.low).mono ?_;clear hsn;rintro e w1 ⟨rfl,hb1⟩;have S2:=Lib.hid (S1.out.below hb1);clear hb1 S1 o0 o1 o2 o3)
   go_upto_region 8 with(first
    |(refine Znt rfl 56 _ rfl (T67 0 0 0 0 (.slice none 0 0) []) (by kernel_rfl) ?_)
    |(refine Zgn rfl 56 _ _ rfl _ _ (T67 0 0 0 0 (.slice none 0 0) []) 39 rfl rfl (by kernel_rfl) rfl (Znf _ _ _ _ _ _ rfl) fun W3 b3 b4 b5=> ?_;have S3:Hid (PpSt w W3 F _ _ _ _):=Lib.hid ⟨S2.out.below b5,b3,b4,S2.out.f.lt⟩;clear b3 b4 b5;obtain⟨⟨o0,o1,o2,o3⟩,⟨e0,e1,g0,g1⟩,⟨f0,f1,h0,h1⟩⟩:=S3.out.cells))
   generalize w1.heap.size=K at*;have S4:=Lib.hid (S3.out.put2 (.int .i64 5) (.int .i64 0));clear S3 S2 o0 o1 o2 o3 e0 e1 g0 g1 f0 f1 h0 h1;generalize ((W3.setCell ⟨K+1,0,none⟩ (.int .i64 5)).setCell ⟨K+1,1,none⟩ (.int .i64 0))=W4 at*;have hp4:=hp W4 S4.out.s.low;have hK4:=S4.out.t.lt;have hK6:=S4.out.e.lt;have hFK:=S4.out.lt;clear hp;obtain⟨⟨o0,o1,o2,o3⟩,⟨e0,e1,g0,g1⟩,⟨f0,f1,h0,h1⟩⟩:=S4.out.cells;go_upto_region 20 with(go_at_call 24;refine hp4.mono ?_;clear hp4;rintro e w5 ⟨vl,vn,rfl,hms,hns,hb5⟩;have I5:Hid (FoSt W4.heap.size f w5 vl vn):=Lib.hid ⟨hms,hns⟩;obtain⟨A1,n1,c1,hv1⟩:=(show∃A n c,vl= .slice A n c by obtain⟨ms,_,h3⟩:=hms;exact Zbc h3);obtain⟨A2,n2,c2,hv2⟩:=Zbc hns;subst hv1 hv2;have S5:=Lib.hid (S4.out.below hb5);clear hms hns hb5 S4 o0 o1 o2 o3 e0 e1 g0 g1 f0 f1 h0 h1;obtain⟨u17,u18,u19,u20,u21,u22,x17,x18,x19,x20,x21,x22⟩:=Zne S5.out.t;obtain⟨⟨o0,o1,o2,o3⟩,⟨e0,e1,g0,g1⟩,⟨f0,f1,h0,h1⟩⟩:=S5.out.cells)
   have S6:=Lib.hid (S5.out.fl6 (.slice A1 n1 c1) (.string (B (Zas f.nt))) (.int .i64 (Zar f.nt:Nat)) (.slice A2 n2 c2) (.int .i64 (Zaf f.nt)) (.string (B f.sound)));have I6:=Lib.hid (I5.out.but (but6 w5 K 17 (.slice A1 n1 c1) (.string (B (Zas f.nt))) (.int .i64 (Zar f.nt:Nat)) (.slice A2 n2 c2) (.int .i64 (Zaf f.nt)) (.string (B f.sound))) hK4);have S7:=Lib.hid (S6.out.put2 (.int .i64 0) (.int .i64 0));have I7:=Lib.hid ((I6.out.set hK6 0 (.int .i64 0)).set hK6 1 (.int .i64 0));clear S6 I6 S5 I5 o0 o1 o2 o3 e0 e1 g0 g1 f0 f1 h0 h1 u17 u18 u19 u20 u21 u22 x17 x18 x19 x20 x21 x22;generalize (((((((w5.setCell ⟨K,17,none⟩ _).setCell ⟨K,18,none⟩ _).setCell ⟨K,19,none⟩ _).setCell ⟨K,20,none⟩ _).setCell ⟨K,21,none⟩ _).setCell ⟨K,22,none⟩ _).setCell ⟨K+1,0,none⟩ (.int .i64 0)).setCell ⟨K+1,1,none⟩ (.int .i64 0)=W7 at*;obtain⟨⟨o0,o1,o2,o3⟩,⟨e0,e1,g0,g1⟩,⟨f0,f1,h0,h1⟩⟩:=S7.out.cells;go_upto_region 22 with(go_at_call 8;refine(hbd _).mono ?_;rintro e w8 ⟨rfl,hb8⟩;have S8:=Lib.hid (S7.out.below hb8);have I8:=Lib.hid (I7.out.below hb8);clear hb8 S7 I7 o0 o1 o2 o3 e0 e1 g0 g1 f0 f1 h0 h1)
   have t0:=S8.out.t.cell 0;rw [show(TF 0 (.slice A1 n1 c1) (.string (B (Zas f.nt))) (.int .i64 (Zar f.nt:Nat)) (.slice A2 n2 c2) (.int .i64 (Zaf f.nt)) (.string (B f.sound)))[0]? =some (.int .i64 0) from rfl] at t0;have tf:=S8.out.t.free 0;go_upto_region 23 with fail
   have S9:=Lib.hid (S8.out.kindF (k2:=3));have I9:=Lib.hid (I8.out.set hK4 0 (.int .i64 3));clear S8 I8 t0 tf;generalize (w8.setCell ⟨K,0,none⟩ (.int .i64 3))=W9 at*;have hF9:=S9.out.s.hF;have hw9:=S9.out.s.o.lt;go_wp2_with (first
    |(refine wpList_load_row rfl 56 _ rfl K rfl 56 (TF 3 (.slice A1 n1 c1) (.string (B (Zas f.nt))) (.int .i64 (Zar f.nt:Nat)) (.slice A2 n2 c2) (.int .i64 (Zaf f.nt)) (.string (B f.sound))) (0,0) _ S9.out.t Tryz.underlying56 rfl (by kernel_rfl) ?_)
    |(refine Znu rfl 56 _ _ rfl (w.heap.size+1) (T67 0 0 0 0 (.slice none 0 0) []) (TF 3 (.slice A1 n1 c1) (.string (B (Zas f.nt))) (.int .i64 (Zar f.nt:Nat)) (.slice A2 n2 c2) (.int .i64 (Zaf f.nt)) (.string (B f.sound))) rfl rfl S9.out.s.z (by kernel_rfl) rfl (Zgi _ _ _ _ _ _ _ ⟨rfl,rfl,rfl,rfl,rfl,rfl⟩) fun W bW hW=> ?_;have BW:=Lib.hid bW;have HW:=Lib.hid hW;have FW:=Lib.hid (S9.out.s.f.but hW (by omega));have e0:=FW.out.cell 0;have e1:=FW.out.cell 1;have g0:=FW.out.free 0;have g1:=FW.out.free 1;clear bW hW))
   have FX:=Zcn FW.out (.int .i64 0) (.int .i64 0);have TX:=(BW.out.set (k:=F) (by omega) 0 (.int .i64 0)).set (k:=F) (by omega) 1 (.int .i64 0);have IX:=(((I9.out.but HW.out (by omega)).set (g:=F) (by omega) 0 (.int .i64 0)).set (g:=F) (by omega) 1 (.int .i64 0)).low (B1:=w.heap.size) (by omega);refine bodyPost_ret (Zh6 rfl _ _ (w.heap.size+1) F _ _ _ _ _ _ _ _ rfl rfl TX FX Tryz.underlying56 rfl (by kernel_rfl) Tryz.underlying39 rfl (by kernel_rfl)) rfl ⟨_,rfl,⟨_,_,rfl,IX.ms,IX.ns⟩,?_⟩;exact((S9.out.s.low.trans ((HW.out.mono S9.out.s.low.size).below (by omega))).setCell (p:=⟨F,0,none⟩) (by show w.heap.size≤F;omega) _).setCell (p:=⟨F,1,none⟩) (by show w.heap.size≤F;omega) _
end Go.Proofs.YtlglfmbccihopaaGreatDoor
