/- Lemmas for TopVersions; conditions: as each says. -/
import Derived.Laws.Bits64b
import Derived.Deep.DeepCutAuto
import Derived.Test.YtlhllehffkoloaaGreatDoorM11
set_option linter.unusedVariables false
set_option linter.unusedSimpArgs false
set_option maxRecDepth 100000
set_option maxHeartbeats 4000000
namespace Go.Proofs.YtlhllehffkoloaaGreatDoor
open Go Go.RowKit
theorem Zjv (m:Nat):(m=0∧Value.int .i64 ((m:Int) - 1)= .int .i64 (-1))∨∃j:Nat,m=j+1∧Value.int .i64 ((m:Int) - 1)= .int .i64 j:=by
 by_cases h:m=0
 · subst h;exact .inl ⟨rfl,rfl⟩
 · exact .inr ⟨m - 1,by omega,by congr 1;omega⟩
namespace InS
theorem safeN_snoc (l:List UInt8)(i:Nat)(hi:i<l.length):Za3 (l.take (i+1))=Za3 (l.take i)*128+l[i].toNat:=by
 rw [List.take_succ_eq_append_getElem hi];unfold Za3;rw [List.foldl_append];rfl
theorem safeN_lt (l:List UInt8):∀i,i≤l.length→(∀j (h:j<l.length),j<i→l[j].toNat<128)→Za3 (l.take i)<128^i
 |0,_,_=>by simp [Za3]
 |i+1,hi,h=>by
  have h1:=safeN_lt l i (by omega) (fun j hj hji=>h j hj (by omega));have h2:=h i (by omega) (by omega);rw [safeN_snoc l i (by omega),Nat.pow_succ];omega
theorem high_skip (l:List UInt8):∀i,i≤l.length→(∀j (h:j<l.length),j<i→l[j].toNat<128)→high l=(high (l.drop i)).map (· +i)
 |0,_,_=>by simp
 |i+1,hi,h=>by
  rw [high_skip l i (by omega) (fun j hj hji=>h j hj (by omega)),List.drop_eq_getElem_cons (show i<l.length by omega),high];rw [if_neg (by have:=h i (by omega) (by omega);omega),Option.map_map];congr 1
  funext x;simp;omega
theorem high_at (l:List UInt8)(i:Nat)(hi:i<l.length)(h:∀j (h:j<l.length),j<i→l[j].toNat<128)(hx:128≤l[i].toNat):high l=some i:=by
 rw [high_skip l i (by omega) h,List.drop_eq_getElem_cons hi,high,if_pos hx];simp
theorem high_no (l:List UInt8)(h:∀j (h:j<l.length),j<l.length→l[j].toNat<128):high l=none:=by
 rw [high_skip l l.length (Nat.le_refl _) h];simp [high]
theorem take_n (s:InS)(k:Nat):(s.take k).1.length≤(s.take k).2.n∧(s.take k).2.t=s.t∧(s.take k).2.base=s.base:=by
 unfold take;split
 · simp
 · split
   · simp only [short,fail];split<;>simp
   · simp only [List.length_take,List.length_drop,and_true];omega
end InS
theorem Ztf {x y:Int} (hy₀:0≤y)(hy:y<128)(hx₀:0≤x)(hx:x<2097152):bits .or .i64 (x*128) y=x*128+y:=
 bits_join .i64 63 (by decide) (fun n h0 h1=>by simp [IntKind.wrap,IntKind.bits,IntKind.signed];omega) 7 (x*128) y (by omega) (by omega) (by omega) hy₀ hy (by omega)
def SfRel (l:List UInt8)(n i:Value):Prop:=∃k:Nat,k≤l.length∧i= .int .i64 k∧n= .int .i64 (Za3 (l.take k):Int)∧∀j (h:j<l.length),j<k→l[j].toNat<128
theorem Zgl (K:Nat)(s:InS)(w:World)(h:InAt w K s):
 Calls Tryz.prog 82 #[.pointer (some ⟨K,0,none⟩)] w (Zh K w (.int .i64 (s.safe.1:Nat)) s.safe.2):=by
 have hs:s.safe=match InS.high (s.take 4).1 with
  |some i=>(0,(s.take 4).2.fail 1 ((s.take 4).2.place ((s.take 4).2.n - (s.take 4).1.length+i)))
  |none=>(Za3 (s.take 4).1,(s.take 4).2):=rfl
 rw [hs];have ht:=fun w h=>Zdo K s 4 (by omega) (by omega) w h;rw [show(4:Int).toNat=4 from rfl] at ht;unfold Zh at ht;have hl:=Zes s 4;obtain⟨hn1,hn2,hn3⟩:=InS.take_n s 4;clear hs hn2 hn3;generalize (s.take 4).2=s2 at*;generalize hLL:(s.take 4).1=L at*;obtain⟨R,hR⟩:∃R:Nat×InS,R=match InS.high L with
  |some i=>(0,s2.fail 1 (s2.place (s2.n - L.length+i)))
  |none=>(Za3 L,s2):=⟨_,rfl⟩
 rw [←hR];generalize hP:Zh K w (.int .i64 (R.1:Nat)) R.2=P at*;have H:=Lib.hid h;have HR:=Lib.hid hR;have hsz:=Zn L;clear h hLL hR;go_enter Tryz.func82,Tryz.ntmps82
 go_wp2_with (go_at_call 72;refine(ht _ H.out).mono ?_;rintro e w2 ⟨rfl,h2,hb2⟩)
 have H2:=Lib.hid h2;obtain⟨c0,c1,c2,c3,c4⟩:=h2.get;have hbase:=h2.base;have hfit:=h2.fits;have hlen:=h2.len;clear h2 c0 c2 c3 c4;go_loop [4,5] (fun n i=>SfRel L n i) (fun _ i=>L.length - (intOf i).toNat)
 case atStart=>exact⟨0,Nat.zero_le _,rfl,rfl,fun j _ h=>by omega⟩
 case round=>
  obtain⟨i,hi,rfl,rfl,hlow⟩:=hrel;have Hlow:=Lib.hid hlow;clear hlow;by_cases hlt:i<L.length
  · have hg:(B L)[i]'(by omega)=L[i]:=by simp [B];rfl
    by_cases hx:128≤L[i].toNat
    · have hp:=fun w h=>ZhN K s2 ((s2.n:Int) - L.length+i) (by omega) (by omega) w h;have hf:=fun w h=>Za7 K s2 1 ((s2.base:Int)+((s2.n:Int) - L.length+i)) (by decide) (by omega) w h;unfold Zh at hf;have hRR:=HR.out;rw [InS.high_at L i hlt Hlow.out hx] at hRR;simp only at hRR;have he:s2.fail (1:Int).toNat ((s2.base:Int)+((s2.n:Int) - L.length+i)).toNat=R.2:=by
       rw [hRR];simp only;rw [ZdG s2 _ hbase (by omega)];congr 1;omega
      have he1:(R.1:Int)=0:=by rw [hRR];rfl
      rw [he] at hf;have He1:=Lib.hid he1;clear he he1 hRR;go_wp2_with (first|(go_at_call 129;refine(hp _ H2.out).mono ?_;rintro e w3 ⟨rfl,rfl⟩)|(go_at_call 124;refine(hf _ H2.out).mono ?_;rintro e w3 ⟨rfl,h3,hb3⟩))
      show P (.returned (.int .i64 0)) _
      rw [←hP];exact⟨by rw [He1.out],h3,hb2.trans (hb3.mono hb2.size)⟩
    · have hsn:=InS.safeN_snoc L i hlt;have hbd:=InS.safeN_lt L i hi Hlow.out;have hbd2:(128:Nat)^i≤128^3:=Nat.pow_le_pow_right (by decide) (by omega);have hbd3:(128:Nat)^3=2097152:=by decide
      have hbd4:Za3 (L.take i)<2097152:=by omega
      clear hbd hbd2 hbd3;have hor:=Ztf (x:=(Za3 (L.take i):Int)) (y:=(L[i].toNat:Int)) (by omega) (by omega) (by omega) (by omega);have Hsn:=Lib.hid hsn;clear hsn;generalize Za3 (L.take i)=N at*;go_wp2_with fail
      go_round
      case rel=>
       refine⟨i+1,by omega,by go_num,by rw [Hsn.out];go_num,fun j hj hji=> ?_⟩;by_cases e:j=i
       · subst e;omega
       · exact Hlow.out j hj (by omega)
      case measure=>simp [intOf];omega
  · have hil:i=L.length:=by omega
    subst hil;have hRR:=HR.out;rw [InS.high_no L Hlow.out] at hRR;simp only at hRR;have HRR:=Lib.hid hRR;clear hRR;go_wp2_with fail
    show P (.returned (.int .i64 (Za3 L:Int))) _
    rw [←hP,HRR.out];exact⟨rfl,H2.out,hb2⟩
namespace InS
theorem differ_skip:∀(k:Nat) (w r:List UInt8),k≤w.length→k≤r.length→(∀j,j<k→w[j]? =r[j]?)→differ w r=(differ (w.drop k) (r.drop k)).map (· +k)
 |0,_,_,_,_,_=>by simp
 |k+1,x::w,y::r,h1,h2,h=>by
  have h0:=h 0 (by omega);simp only [List.getElem?_cons_zero,Option.some.injEq] at h0;subst h0;have ih:=differ_skip k w r (by simpa using h1) (by simpa using h2) (fun j hj=>by have:=h (j+1) (by omega);simpa using this);simp only [differ,if_pos,ih,Option.map_map,List.drop_succ_cons];congr 1
 |k+1,[],_,h1,_,_=>by simp at h1
 |k+1,_::_,[],_,h2,_=>by simp at h2
theorem differ_nil (w:List UInt8):differ [] w=none∧differ w []=none:=by
 constructor
 · cases w<;>rfl
 · cases w<;>rfl
end InS
def WnRel (l r:List UInt8)(W:World)(i:Value)(wr:World):Prop:=∃k:Nat,k≤l.length∧k≤r.length∧i= .int .i64 k∧(∀j,j<k→l[j]? =r[j]?)∧∃n,wr=W.drewN n
theorem ZhW (K:Nat)(s:InS)(l:List UInt8)(hl:l.length≤1000000000)(w:World)(h:InAt w K s):
 Calls Tryz.prog 66 #[.pointer (some ⟨K,0,none⟩),.string (B l)] w (Zh K w (.bool (s.want l).1) (s.want l).2):=by
 obtain⟨R,hR⟩:∃R,R=s.want l:=⟨_,rfl⟩
 rw [←hR];generalize hP:Zh K w (.bool R.1) R.2=P at*;have H:=Lib.hid h;by_cases h0:s.e=0
 · have hr:=fun w h=>ZeB K s w h h0;obtain⟨c0,c1,c2,c3,c4⟩:=h.get;have hlt:=h.lt;have hfi:=h.fits;have hle:=h.len;have hba:=h.base;have hsz:=Zn s.t;have hszl:=Zn l;have he:(B s.t).extract s.n s.t.length=B (s.t.drop s.n):=by
    rw [Zfg,List.take_of_length_le (by simp)]
   have hrl:(s.t.drop s.n).length=s.t.length - s.n:=List.length_drop ..;have hszr:=Zn (s.t.drop s.n);rw [InS.want,if_neg (by omega)] at hR;have HR:=Lib.hid hR;have Hrl:=Lib.hid hrl;clear h h0 c2 c3 c4 hR hrl;generalize s.t.drop s.n=r at*;go_enter Tryz.func66,Tryz.ntmps66
   go_wp2_with (go_at_call 128;refine(hr _ H.out).mono ?_;rintro e w1 ⟨rfl,hb1⟩;obtain⟨hc,hf⟩:=ZcE hb1)
   go_quiet (fail)
   go_wp2_with fail
   have hB0:=below_drewN hb1 nq;have H0:=(H.out.below hb1).drewN nq;generalize w1.drewN nq=w0 at*;have HB0:=Lib.hid hB0;have HH0:=Lib.hid H0;clear hb1 hc hf hB0 H0 c0 c1;go_loopw [6] (fun i wr=>WnRel l r w0 i wr) (fun i _=>l.length - (intOf i).toNat)
   case atStart=>exact⟨0,Nat.zero_le _,Nat.zero_le _,rfl,fun j h=>by omega,0,rfl⟩
   case round=>
    obtain⟨k,hk1,hk2,rfl,heq,n,rfl⟩:=hrel;have Heq:=Lib.hid heq;obtain⟨c0,c1,c2,c3,c4⟩:=HH0.out.get;have f1:=HH0.out.free 1;clear heq c0 c2 c3 c4;by_cases hlt1:k<l.length
    · by_cases hlt2:k<r.length
      · have hg1:(B l)[k]'(by omega)=l[k]:=by simp [B];rfl
        have hg2:(B r)[k]'(by omega)=r[k]:=by simp [B];rfl
        by_cases hx:l[k]=r[k]
        · have hx1:(l[k].toNat:Int)=(r[k].toNat:Int):=by rw [hx]
          have hd:((l[k].toNat:Int) !=(r[k].toNat:Int))=false:=by rw [hx1];simp
          clear hx1;have Hx:=Lib.hid hx;clear hx;go_wp2_with fail
          go_quiet (fail)
          go_wp2_with fail
          go_roundw
          case rel=>
           refine⟨k+1,by omega,by omega,by go_num,fun j hj=> ?_,_,rfl⟩;by_cases e:j=k
           · subst e;rw [List.getElem?_eq_getElem hlt1,List.getElem?_eq_getElem hlt2,Hx.out]
           · exact Heq.out j (by omega)
          case measure=>simp [intOf];omega
        · have hx1:(l[k].toNat:Int)≠(r[k].toNat:Int):=fun e=>hx (UInt8.toNat_inj.1 (by omega));have hd:((l[k].toNat:Int) !=(r[k].toNat:Int))=true:=by simpa using hx1
          have hRR:=HR.out;rw [InS.differ_skip k l r hk1 hk2 Heq.out,List.drop_eq_getElem_cons hlt1,List.drop_eq_getElem_cons hlt2,InS.differ,if_neg hx] at hRR;simp only [Option.map_some,Nat.zero_add] at hRR;have hrl:=Hrl.out;have hp:=fun w h=>ZhN K s ((s.n:Int)+k) (by omega) (by omega) w h;have hf:=fun w h=>Za7 K s 1 ((s.base:Int)+((s.n:Int)+k)) (by decide) (by omega) w h;unfold Zh at hf;have he2:s.fail (1:Int).toNat ((s.base:Int)+((s.n:Int)+k)).toNat=R.2:=by
           rw [hRR];simp only;rw [ZdG s _ hba (by omega)];congr 1
          have he1:R.1=false:=by rw [hRR]
          rw [he2] at hf;have He1:=Lib.hid he1;clear hRR he2 he1 hrl hx1 hx;go_wp2_with fail
          go_quiet (fail)
          go_wp2_with (first|(go_at_call 129;refine(hp _ (HH0.out.drewN _)).mono ?_;rintro e w3 ⟨rfl,rfl⟩)|(go_at_call 124;refine(hf _ (HH0.out.drewN _)).mono ?_;rintro e w3 ⟨rfl,h3,hb3⟩))
          show P (.returned (.bool false)) _
          rw [←hP];exact⟨by rw [He1.out],h3,(But.of (below_drewN HB0.out _)).trans (hb3.mono (HB0.out.size))⟩
      · have hk:k=r.length:=by omega
        subst hk;have hRR:=HR.out;rw [InS.differ_skip _ l r hk1 hk2 Heq.out,List.drop_length,(InS.differ_nil _).2] at hRR;simp only [Option.map_none] at hRR;have hrl:=Hrl.out;rw [if_pos (by omega)] at hRR;have he1:R.1=false:=by rw [hRR]
        have hf:=fun w h=>ZhR K s w h;unfold Zh at hf;have he2:s.short=R.2:=by rw [hRR]
        rw [he2] at hf;have He1:=Lib.hid he1;clear hRR he2 he1 hrl;go_wp2_with (first|(go_at_call 130;refine(hf _ (HH0.out.drewN _)).mono ?_;rintro e w3 ⟨rfl,h3,hb3⟩))
        show P (.returned (.bool false)) _
        rw [←hP];exact⟨by rw [He1.out],h3,(But.of (below_drewN HB0.out _)).trans (hb3.mono (HB0.out.size))⟩
    · have hk:k=l.length:=by omega
      subst hk;have hRR:=HR.out;rw [InS.differ_skip _ l r hk1 hk2 Heq.out,List.drop_length,(InS.differ_nil _).1] at hRR;simp only [Option.map_none] at hRR;have hrl:=Hrl.out;rw [if_neg (by omega)] at hRR;have HRR:=Lib.hid hRR;clear hRR;go_wp2_with fail
      show P (.returned (.bool true)) _
      rw [←hP,HRR.out];exact⟨rfl,(HH0.out.drewN _).nextZ (s.n+l.length) _ (by omega) (by omega),(But.of (below_drewN HB0.out _)).setCell (p:=⟨K,1,none⟩) (.inr rfl) _⟩
 · have hr:=fun w h=>ZeA K s w h h0;rw [InS.want,if_pos h0] at hR;have Hs:=Lib.hid hR;clear hR h h0;go_enter Tryz.func66,Tryz.ntmps66
   go_wp2_with (go_at_call 128;refine(hr _ H.out).mono ?_;rintro e w1 ⟨rfl,hb1⟩)
   show P (.returned (.bool false)) _
   rw [←hP,Hs.out];exact⟨rfl,H.out.below hb1,.of hb1⟩
theorem Zjf {α:Type} (z x:α)(l:List α):∀m,(List.replicate (m+1) z++l).set m x=List.replicate m z++x::l
 |0=>rfl
 |m+1=>by
  have:=Zjf z x l m;rw [List.replicate_succ,List.cons_append,List.set_cons_succ,this,List.replicate_succ,List.cons_append]
theorem u8_of (M:Nat):u8V (UInt8.ofNat (M % 256))= .int .u8 ((M:Int) % 256):=by
 unfold u8V;rw [UInt8.toNat_ofNat'];congr 1;omega
def BbRel (N k:Nat)(w0:World)(n i:Value)(wr:World):Prop:=∃m j:Nat,m+j=k∧n= .int .u64 ((N / 256^j:Nat):Int)∧((m=0∧i= .int .i64 (-1))∨∃q:Nat,m=q+1∧i= .int .i64 q)∧
 wr.ownsRow w0.heap.size 5 1 (.slice (some ⟨w0.heap.size,0,none⟩) k k) k ((List.replicate m 0++Zal N j).map u8V)∧Below w0.heap.size w0 wr
theorem Zfh (N k:Nat)(hN:N<18446744073709551616)(hk1:1≤k)(hk:k≤8)(w:World):
 Calls Tryz.prog 20 #[.int .u64 N,.int .i64 k] w fun e w'=>e= .returned (.string (B (Zal N k)))∧Below w.heap.size w w':=by
 obtain⟨i0,hi,iz0,iz1,iz2⟩:=info_parts Zet;have hw:=fun w=>ZkX k hk w;go_enter Tryz.func20,Tryz.ntmps20
 go_wp2_with (first|(go_at_call 45;refine(hw _).mono ?_;rintro e w1 ⟨rfl,rfl⟩)|(at_make;refine wpList_make_full _ rfl _ _ 105 rfl w.heap.size 5 i0 (.int .u8 0) 1 Tryz.underlying105 hi iz0 iz1 .i64 .i64 k k k rfl rfl rfl rfl (by rw [iz2];omega) (by unfold maxLen;omega) (Nat.le_refl _) ?_;intro w1 hown1 hg1))
 have hB1:Below w.heap.size w w1:=(Below.refl _ w).grown hg1 (Nat.le_refl _) (fun k h=>by cases h);go_loopw [0,6] (fun n i wr=>BbRel N k w n i wr) (fun _ i _=>(intOf i+1).toNat)
 case atStart=>
  refine⟨k,0,rfl,by simp,Zjv k,?_,hB1⟩;have e:(madeCells (Value.int .u8 0).cells (k*1)).toList=((List.replicate k 0++Zal N 0).map u8V:List Value):=by
   rw [Nat.mul_one,show(Value.int .u8 0).cells=#[.int .u8 0] from rfl,toList_madeCells_one];simp [Zal,u8V]
  rw [←e];exact hown1
 case round=>
  obtain⟨m,j,hmj,rfl,hi2,hown,hb⟩:=hrel;have hz:=hb.size;rcases hi2 with⟨rfl,rfl⟩|⟨q,rfl,rfl⟩
  · have hj:j=k:=by omega
    subst hj;rw [List.replicate_zero,List.nil_append] at hown;have hcv:=Zfv wr hown;clear hown;go_wp2_with fail
    go_ret
    exact⟨rfl,hb⟩
  · have hce:∃u,wr.cell? ⟨w.heap.size,q,none⟩=some u:=by
     have hl:=hown.1;exact⟨_,by rw [hown.cellAt q (by omega),List.getElem?_eq_getElem (by omega)]⟩
    obtain⟨u,hce⟩:=hce;have hfz:=hown.frozenAt q;have hgl:w.heap.size<wr.heap.size:=World.block_lt_of_cell? _ _ hce;have hst:=(hown.stored q (u8V (UInt8.ofNat (N / 256^j % 256)))).1;rw [←List.map_set,Zjf,u8_of] at hst;have Hst:=Lib.hid hst;have hNj:N / 256^j<18446744073709551616:=Nat.lt_of_le_of_lt (Nat.div_le_self _ _) hN;have hM:N / 256^(j+1)=N / 256^j / 256:=by rw [Nat.pow_succ,Nat.div_div_eq_div_mul]
    have HM:=Lib.hid hM;clear hst hown hM;generalize hMM:N / 256^j=M at*;have HMM:=Lib.hid hMM;clear hMM;go_wp2_with fail
    go_roundw
    case rel=>
     refine⟨q,j+1,by omega,by rw [HM.out];go_num,Zjv q,?_,hb.setCell (p:=⟨w.heap.size,q,none⟩) (Nat.le_refl _) _⟩;have:=Hst.out;rw [Zal,HMM.out];exact this
    case measure=>simp [intOf]
def Zeo (N:Nat):Nat→List UInt8
 |0=>[]
 |j+1=>UInt8.ofNat (N / 128^j % 128)::Zeo N j
theorem Zu8 (N:Nat):Zeo N 4=ZR N:=by simp [Zeo,ZR]
theorem u8_of7 (M:Nat):u8V (UInt8.ofNat (M % 128))= .int .u8 ((M:Int) % 128):=by
 unfold u8V;rw [UInt8.toNat_ofNat'];congr 1;omega
theorem Zri (M:Nat)(h:M<18446744073709551616):bits .and .u64 (M:Int) 127=(M:Int) % 128:=by
 have:=bits_and_u64_nat M 127 h (by decide);rw [show M&&&127=M % 128 from Nat.and_two_pow_sub_one_eq_mod M 7] at this;rw [show((127:Nat):Int)=127 from rfl] at this;rw [this];omega
def SvRel (N:Nat)(w0:World)(n i:Value)(wr:World):Prop:=∃m j:Nat,m+j=4∧n= .int .u64 ((N / 128^j:Nat):Int)∧((m=0∧i= .int .i64 (-1))∨∃q:Nat,m=q+1∧i= .int .i64 q)∧
 wr.ownsRow w0.heap.size 5 1 (.slice (some ⟨w0.heap.size,0,none⟩) 4 4) 4 ((List.replicate m 0++Zeo N j).map u8V)∧Below w0.heap.size w0 wr
theorem Zfm (N:Nat)(hN:N<268435456)(w:World):
 Calls Tryz.prog 18 #[.int .u64 N] w fun e w'=>e= .returned (.tuple #[.string (B (ZR N)),.bool true])∧Below w.heap.size w w':=by
 obtain⟨i0,hi,iz0,iz1,iz2⟩:=info_parts Zet;go_enter Tryz.func18,Tryz.ntmps18
 go_wp2_with (at_make;refine wpList_make_full _ rfl _ _ 105 rfl w.heap.size 5 i0 (.int .u8 0) 1 Tryz.underlying105 hi iz0 iz1 .i64 .i64 4 4 4 rfl rfl rfl rfl (by rw [iz2];omega) (by unfold maxLen;omega) (Nat.le_refl _) ?_;intro w1 hown1 hg1)
 have hB1:Below w.heap.size w w1:=(Below.refl _ w).grown hg1 (Nat.le_refl _) (fun k h=>by cases h);go_loopw [0,5] (fun n i wr=>SvRel N w n i wr) (fun _ i _=>(intOf i+1).toNat)
 case atStart=>
  refine⟨4,0,rfl,by simp,.inr ⟨3,rfl,rfl⟩,?_,hB1⟩;have e:(madeCells (Value.int .u8 0).cells (4*1)).toList=((List.replicate 4 0++Zeo N 0).map u8V:List Value):=by
   rw [Nat.mul_one,show(Value.int .u8 0).cells=#[.int .u8 0] from rfl,toList_madeCells_one];simp [Zeo,u8V]
  rw [←e];exact hown1
 case round=>
  obtain⟨m,j,hmj,rfl,hi2,hown,hb⟩:=hrel;have hz:=hb.size;rcases hi2 with⟨rfl,rfl⟩|⟨q,rfl,rfl⟩
  · have hj:j=4:=by omega
    subst hj;rw [List.replicate_zero,List.nil_append,Zu8] at hown;have hcv:=Zfv wr hown;clear hown;go_wp2_with fail
    go_ret2
    exact⟨rfl,hb⟩
  · have hce:∃u,wr.cell? ⟨w.heap.size,q,none⟩=some u:=by
     have hl:=hown.1;exact⟨_,by rw [hown.cellAt q (by omega),List.getElem?_eq_getElem (by omega)]⟩
    obtain⟨u,hce⟩:=hce;have hfz:=hown.frozenAt q;have hgl:w.heap.size<wr.heap.size:=World.block_lt_of_cell? _ _ hce;have hst:=(hown.stored q (u8V (UInt8.ofNat (N / 128^j % 128)))).1;rw [←List.map_set,Zjf,u8_of7] at hst;have Hst:=Lib.hid hst;have hNj:N / 128^j<18446744073709551616:=Nat.lt_of_le_of_lt (Nat.div_le_self _ _) (by omega);have hM:N / 128^(j+1)=N / 128^j / 128:=by rw [Nat.pow_succ,Nat.div_div_eq_div_mul]
    have HM:=Lib.hid hM;clear hst hown hM;generalize hMM:N / 128^j=M at*;have HMM:=Lib.hid hMM;have han:=Zri M hNj;clear hMM;go_wp2_with fail
    go_roundw
    case rel=>
     refine⟨q,j+1,by omega,by rw [HM.out];go_num,Zjv q,?_,hb.setCell (p:=⟨w.heap.size,q,none⟩) (Nat.le_refl _) _⟩;have:=Hst.out;rw [Zeo,HMM.out];exact this
    case measure=>simp [intOf]
theorem Zbb (t:List UInt8)(i:Nat)(h:i<t.length):(B t)[i]'(by rw [Zn];exact h)=t[i]:=by simp [B];rfl
theorem ZtJ (t:List UInt8)(i:Nat)(h:i<t.length):looksAt t i=Zdc t[i] (t.drop (i+1)):=by
 unfold looksAt;rw [List.drop_eq_getElem_cons h]
theorem Zkk (t:List UInt8)(i:Nat)(hi:i<t.length)(ht:t.length≤1000000000)(w:World):
 Calls Tryz.prog 98 #[.string (B t),.int .i64 i] w fun e w'=>e= .returned (.bool (looksAt t i))∧w=w':=by
 have hsz:=Zn t;have hg:=Zbb t i hi;have hla:=ZtJ t i hi;by_cases h1:t[i]=255
 · have hx:(t[i].toNat:Int)=255:=by rw [h1];rfl
   by_cases h2:i+1=t.length
   · have hv:looksAt t i=true:=by
      rw [hla,h1,h2,List.drop_length];rfl
     have hd:(((i:Int)+1)==(t.length:Int))=true:=by rw [beq_iff_eq];omega
     have HV:=Lib.hid hv;clear hv hla h1;go_enter Tryz.func98,Tryz.ntmps98
     go_wp2_with fail
     go_ret
     exact⟨by rw [HV.out];rfl,rfl⟩
   · have hg2:=Zbb t (i+1) (by omega);have hd:(((i:Int)+1)==(t.length:Int))=false:=by rw [beq_eq_false_iff_ne];omega
     have hl2:looksAt t i=(t[i+1]==0||decide (224≤t[i+1].toNat)):=by
      rw [hla,h1,List.drop_eq_getElem_cons (show i+1<t.length by omega)];rfl
     by_cases h3:t[i+1]=0
     · have hy:(t[i+1].toNat:Int)=0:=by rw [h3];rfl
       have hv:looksAt t i=true:=by rw [hl2,h3];rfl
       have HV:=Lib.hid hv;clear hv hla h1 hl2 h3;go_enter Tryz.func98,Tryz.ntmps98
       go_wp2_with fail
       go_ret
       exact⟨by rw [HV.out];rfl,rfl⟩
     · have hy:((t[i+1].toNat:Int)==0)=false:=by rw [beq_eq_false_iff_ne];exact fun e=>h3 (UInt8.toNat_inj.1 (by show t[i+1].toNat=0;omega))
       have hv:looksAt t i=decide (224≤(t[i+1].toNat:Int)):=by
        rw [hl2,show(t[i+1]==0)=false by simpa using h3,Bool.false_or];congr 1;exact propext (by omega)
       have HV:=Lib.hid hv;clear hv hla h1 hl2 h3;by_cases h4:224≤(t[i+1].toNat:Int)
       · go_enter Tryz.func98,Tryz.ntmps98
         go_wp2_with fail
         go_ret
         exact⟨by rw [HV.out];simp [h4],rfl⟩
       · go_enter Tryz.func98,Tryz.ntmps98
         go_wp2_with fail
         go_ret
         exact⟨by rw [HV.out];simp [h4],rfl⟩
 · have hx:((t[i].toNat:Int)==255)=false:=by rw [beq_eq_false_iff_ne];exact fun e=>h1 (UInt8.toNat_inj.1 (by show t[i].toNat=255;omega))
   have hx2:((t[i].toNat:Int) !=255)=true:=by rw [bne,hx];rfl
   have hv:looksAt t i=false:=by rw [hla];unfold Zdc;rw [show(t[i]==255)=false by simpa using h1];rfl
   have HV:=Lib.hid hv;clear hv hla h1;go_enter Tryz.func98,Tryz.ntmps98
   go_wp2_with fail
   go_ret
   exact⟨by rw [HV.out];rfl,rfl⟩
def ExRel (t:List UInt8)(n i:Value):Prop:=∃k m:Nat,k≤t.length∧i= .int .i64 k∧n= .int .i64 m∧ZaG t=m+ZaG (t.drop k)
theorem ZhB (t:List UInt8)(ht:t.length≤1000000000)(w:World):
 Calls Tryz.prog 42 #[.string (B t)] w fun e w'=>e= .returned (.int .i64 (ZaG t))∧w=w':=by
 have hsz:=Zn t;have hle:=Zdt t;go_enter Tryz.func42,Tryz.ntmps42
 go_wp2_with fail
 go_loop [3,7] (fun n i=>ExRel t n i) (fun _ i=>t.length - (intOf i).toNat)
 case atStart=>exact⟨0,0,by omega,rfl,rfl,by simp⟩
 case round=>
  obtain⟨k,m,hk,rfl,rfl,he⟩:=hrel;by_cases hlt:k<t.length
  · have hst:=Zsy t k hlt;have hlk:=fun w=>Zkk t k hlt ht w;by_cases hb:looksAt t k=true
    · rw [hb] at hlk hst;rw [if_pos rfl] at hst;have he2:ZaG t=(m+1)+ZaG (t.drop (k+1)):=by omega
      have hm:m<1000000000:=by omega
      have He2:=Lib.hid he2;clear he he2 hst hb;go_wp2_with (go_at_call 98;refine(hlk _).mono ?_;rintro e w1 ⟨rfl,rfl⟩)
      go_round
      case rel=>exact⟨k+1,m+1,by omega,by go_num,by go_num,He2.out⟩
      case measure=>simp [intOf];omega
    · have hb':looksAt t k=false:=by simpa using hb
      rw [hb'] at hlk hst;rw [if_neg (by decide)] at hst;have he2:ZaG t=m+ZaG (t.drop (k+1)):=by omega
      have He2:=Lib.hid he2;clear he he2 hst hb hb';go_wp2_with (go_at_call 98;refine(hlk _).mono ?_;rintro e w1 ⟨rfl,rfl⟩)
      go_round
      case rel=>exact⟨k+1,m,by omega,by go_num,rfl,He2.out⟩
      case measure=>simp [intOf];omega
  · have hk2:k=t.length:=by omega
    subst hk2;rw [List.drop_length,ZaG,Nat.add_zero] at he;have He:=Lib.hid he;clear he hle;go_wp2_with fail
    go_ret
    exact⟨by rw [He.out];rfl,rfl⟩
def PtRel (t:List UInt8)(w0:World)(v i:Value)(wr:World):Prop:=∃(k:Nat) (out:List UInt8),k≤t.length∧i= .int .i64 k∧ZS t=out++ZS (t.drop k)∧
 wr.ownsRow w0.heap.size 5 1 v out.length (out.map u8V)∧Below w0.heap.size w0 wr
theorem Zkx (t:List UInt8)(ht:t.length≤1000000000)(w:World):
 Calls Tryz.prog 43 #[.string (B t)] w fun e w'=>e= .returned (.string (B (ZS t)))∧Below w.heap.size w w':=by
 obtain⟨i0,hi,iz0,iz1,iz2⟩:=info_parts Zet;have hsz:=Zn t;have hel:=Zdt t;have hpl:=Zej t;have hex:=fun w=>ZhB t ht w;have hple:(ZS t).length≤2000000000:=by omega
 have Hple:=Lib.hid hple;clear hpl hple;generalize ZaG t=E at*;go_enter Tryz.func43,Tryz.ntmps43
 go_wp2_with (first|(go_at_call 42;refine(hex _).mono ?_;rintro e w1 ⟨rfl,rfl⟩)|(at_make;refine wpList_make_own _ rfl _ _ 105 rfl w.heap.size 5 i0 (.int .u8 0) 1 Tryz.underlying105 hi iz0 iz1 .i64 .i64 ((t.length:Int)+E) (t.length+E) rfl rfl (by omega) (by rw [iz2];omega) (by unfold maxLen;omega) (Nat.le_refl _) ?_;intro w1 hown1 hg1))
 have hB1:Below w.heap.size w w1:=(Below.refl _ w).grown hg1 (Nat.le_refl _) (fun k h=>by cases h);go_loopw [3,13] (fun v i wr=>PtRel t w v i wr) (fun _ i _=>t.length - (intOf i).toNat)
 case atStart=>exact⟨0,[],by omega,rfl,by simp,hown1,hB1⟩
 case round=>
  obtain⟨k,out,hk,rfl,he,hown,hb⟩:=hrel;have hz:=hb.size;by_cases hlt:k<t.length
  · have hst:=ZuF t k hlt;have hg:=Zbb t k hlt;have hol:out.length≤2000000000:=by
     have:=Hple.out;rw [he,List.length_append] at this;omega
    have hlk:=fun w=>Zkk t k hlt ht w;by_cases hl:looksAt t k=true
    · rw [hl] at hlk hst;rw [if_pos rfl] at hst;have he2:ZS t=(out++[t[k]]++[0])++ZS (t.drop (k+1)):=by rw [he,hst];simp
      have He2:=Lib.hid he2;clear he he2 hst hl;go_wp2_with (first|(go_at_call 98;refine(hlk _).mono ?_;rintro e w1 ⟨rfl,rfl⟩)|(at_builtin;refine ZdY rfl _ _ rfl w.heap.size u3 out rfl wr _ _ rfl hown (by omega) (by omega) rfl ?_;intro v6 w6 HO6 hb6;have HB6:=Lib.hid (hb.trans hb6);have hz6:=HB6.out.size;clear hb6 hown)|(at_builtin;refine ZdY rfl _ _ rfl w.heap.size v6 (out++[t[k]]) rfl w6 0 _ rfl HO6.out (by omega) (by simp;omega) rfl ?_;intro v7 w7 HO7 hb7;have HB7:=Lib.hid (HB6.out.trans hb7);clear hb7))
      go_roundw
      case rel=>exact⟨k+1,_,by omega,by go_num,He2.out,HO7.out,HB7.out⟩
      case measure=>simp [intOf];omega
    · have hl':looksAt t k=false:=by simpa using hl
      rw [hl'] at hlk hst;rw [if_neg (by decide)] at hst;have he2:ZS t=(out++[t[k]])++ZS (t.drop (k+1)):=by rw [he,hst];simp
      have He2:=Lib.hid he2;clear he he2 hst hl hl';go_wp2_with (first|(go_at_call 98;refine(hlk _).mono ?_;rintro e w1 ⟨rfl,rfl⟩)|(at_builtin;refine ZdY rfl _ _ rfl w.heap.size u3 out rfl wr _ _ rfl hown (by omega) (by omega) rfl ?_;intro v6 w6 HO6 hb6;have HB6:=Lib.hid (hb.trans hb6);clear hb6 hown))
      go_roundw
      case rel=>exact⟨k+1,_,by omega,by go_num,He2.out,HO6.out,HB6.out⟩
      case measure=>simp [intOf];omega
  · have hk2:k=t.length:=by omega
    subst hk2;rw [List.drop_length,ZS,List.append_nil] at he;have He:=Lib.hid he;have hcv:=Zfv wr hown;clear he hown;go_wp2_with fail
    go_ret
    exact⟨by rw [He.out];rfl,hb⟩
def ZbQ (t:List UInt8)(k:Nat):Bool:=decide (0<k)&&(t[k - 1]? ==some 255)
def DrRel (t:List UInt8)(w0:World)(v i:Value)(wr:World):Prop:=∃(k:Nat) (out:List UInt8),k≤t.length∧i= .int .i64 k∧out.length≤k∧ZW false t=out++ZW (ZbQ t k) (t.drop k)∧
 wr.ownsRow w0.heap.size 5 1 v out.length (out.map u8V)∧Below w0.heap.size w0 wr
theorem ZsJ (t:List UInt8)(k:Nat)(h:k<t.length):ZbQ t (k+1)=(t[k]==255):=by
 simp [ZbQ,h]
theorem Zkc (t:List UInt8)(ht:t.length≤1000000000)(w:World):
 Calls Tryz.prog 83 #[.string (B t)] w fun e w'=>e= .returned (.string (B (ZW false t)))∧Below w.heap.size w w':=by
 obtain⟨i0,hi,iz0,iz1,iz2⟩:=info_parts Zet;have hsz:=Zn t;go_enter Tryz.func83,Tryz.ntmps83
 go_wp2_with (at_make;refine wpList_make_own _ rfl _ _ 105 rfl w.heap.size 5 i0 (.int .u8 0) 1 Tryz.underlying105 hi iz0 iz1 .i64 .i64 (t.length:Int) t.length rfl rfl rfl (by rw [iz2];omega) (by unfold maxLen;omega) (Nat.le_refl _) ?_;intro w1 hown1 hg1)
 have hB1:Below w.heap.size w w1:=(Below.refl _ w).grown hg1 (Nat.le_refl _) (fun k h=>by cases h);go_loopw [3,10] (fun v i wr=>DrRel t w v i wr) (fun _ i _=>t.length - (intOf i).toNat)
 case atStart=>exact⟨0,[],by omega,rfl,by simp,by simp [ZbQ],hown1,hB1⟩
 case round=>
  obtain⟨k,out,hk,rfl,hol,he,hown,hb⟩:=hrel;have hz:=hb.size;by_cases hlt:k<t.length
  · have hst:=Zsc (ZbQ t k) t k hlt;have hfs:=ZsJ t k hlt;have hg:=Zbb t k hlt;by_cases hx:t[k]=0
    · have hx0:(t[k].toNat:Int)=0:=by rw [hx];rfl
      by_cases hf:ZbQ t k=true
      · have hk0:0<k:=by
         simp only [ZbQ,Bool.and_eq_true,decide_eq_true_eq] at hf;exact hf.1
        have hp:t[k - 1]'(by omega)=255:=by
         simp only [ZbQ,Bool.and_eq_true,decide_eq_true_eq] at hf;have:=hf.2;rw [List.getElem?_eq_getElem (by omega)] at this;simpa using this
        have hg2:=Zbb t (k - 1) (by omega);have hp0:((t[k - 1]'(by omega)).toNat:Int)=255:=by rw [hp];rfl
        have he2:ZW false t=out++ZW (ZbQ t (k+1)) (t.drop (k+1)):=by
         rw [he,hst,hf,hx,hfs,hx];rfl
        have He2:=Lib.hid he2;clear he he2 hst hfs hx hf hp;go_wp2_with fail
        go_roundw
        case rel=>exact⟨k+1,out,by omega,by go_num,by omega,He2.out,hown,hb⟩
        case measure=>simp [intOf];omega
      · have hf':ZbQ t k=false:=by simpa using hf
        have he2:ZW false t=(out++[t[k]])++ZW (ZbQ t (k+1)) (t.drop (k+1)):=by
         rw [he,hst,hf',hx,hfs,hx];simp
        have He2:=Lib.hid he2;by_cases hk0:k=0
        · subst hk0;clear he he2 hst hfs hx hf hf';go_wp2_with (at_builtin;refine ZdY rfl _ _ rfl w.heap.size u3 out rfl wr (t[0]) _ (by first|rfl|simp [u8V,hx0]) hown (by omega) (by omega) rfl ?_;intro v6 w6 HO6 hb6;have HB6:=Lib.hid (hb.trans hb6);clear hb6 hown)
          go_roundw
          case rel=>exact⟨0+1,_,by omega,by go_num,by rw [List.length_append,List.length_singleton];omega,He2.out,HO6.out,HB6.out⟩
          case measure=>show t.length - (intOf (.int .i64 (0+1))).toNat<t.length - (intOf (.int .i64 0)).toNat;simp only [intOf];omega
        · have hp:(t[k - 1]'(by omega))≠255:=by
           intro e;simp only [ZbQ,Bool.and_eq_false_iff,decide_eq_false_iff_not] at hf';rcases hf' with h|h
           · omega
           · rw [List.getElem?_eq_getElem (by omega),e] at h;simp at h
          have hp0:(((t[k - 1]'(by omega)).toNat:Int)==255)=false:=by rw [beq_eq_false_iff_ne];exact fun e=>hp (UInt8.toNat_inj.1 (by show(t[k - 1]'(by omega)).toNat=255;omega))
          have hg2:=Zbb t (k - 1) (by omega);have hk1:0<k:=by omega
          clear he he2 hst hfs hx hf hf' hp hk0;go_wp2_with (at_builtin;refine ZdY rfl _ _ rfl w.heap.size u3 out rfl wr (t[k]) _ (by first|rfl|simp [u8V,hx0]) hown (by omega) (by omega) rfl ?_;intro v6 w6 HO6 hb6;have HB6:=Lib.hid (hb.trans hb6);clear hb6 hown)
          go_roundw
          case rel=>exact⟨k+1,_,by omega,by go_num,by simp;omega,He2.out,HO6.out,HB6.out⟩
          case measure=>simp [intOf];omega
    · have hx0:((t[k].toNat:Int)==0)=false:=by rw [beq_eq_false_iff_ne];exact fun e=>hx (UInt8.toNat_inj.1 (by show t[k].toNat=0;omega))
      have he2:ZW false t=(out++[t[k]])++ZW (ZbQ t (k+1)) (t.drop (k+1)):=by
       rw [he,hst,hfs,show(t[k]==0)=false by simpa using hx];simp
      have He2:=Lib.hid he2;clear he he2 hst hfs hx;go_wp2_with (at_builtin;refine ZdY rfl _ _ rfl w.heap.size u3 out rfl wr (t[k]) _ rfl hown (by omega) (by omega) rfl ?_;intro v6 w6 HO6 hb6;have HB6:=Lib.hid (hb.trans hb6);clear hb6 hown)
      go_roundw
      case rel=>exact⟨k+1,_,by omega,by go_num,by simp;omega,He2.out,HO6.out,HB6.out⟩
      case measure=>simp [intOf];omega
  · have hk2:k=t.length:=by omega
    subst hk2;rw [List.drop_length,ZW,List.append_nil] at he;have He:=Lib.hid he;have hcv:=Zfv wr hown;clear he hown;go_wp2_with fail
    go_ret
    exact⟨by rw [He.out];rfl,hb⟩
theorem Zcj (m:UInt8)(z:Int)(c:UInt8)(hz:z=c.toNat):bits .and .u8 (m.toNat:Int) z=((m&&&c).toNat:Int):=by
 subst hz;have:=(bits_nat .u8 8 (by decide) (fun n h0 h1=>by rw [IntKind.wrap_u8];omega) m.toNat c.toNat m.toNat_lt c.toNat_lt).1;rw [this,UInt8.toNat_and]
theorem or_u8 (m:UInt8)(z:Int)(c:UInt8)(hz:z=c.toNat):bits .or .u8 (m.toNat:Int) z=((m|||c).toNat:Int):=by
 subst hz;have:=(bits_nat .u8 8 (by decide) (fun n h0 h1=>by rw [IntKind.wrap_u8];omega) m.toNat c.toNat m.toNat_lt c.toNat_lt).2;rw [this,UInt8.toNat_or]
theorem Zdz (x:UInt8):((x.toNat:Int) !=0)=(x !=0):=by
 by_cases h:x=0
 · subst h;rfl
 · have h1:x.toNat≠0:=fun e=>h (UInt8.toNat_inj.1 e);rw [show(x !=0)=true by simpa using h,bne_iff_ne];omega
theorem Zdd (m c:UInt8)(k:Nat)(hk:c.toNat=k):(((m.toNat&&&k:Nat):Int) !=0)=(m&&&c !=0):=by
 subst hk;have:=Zdz (m&&&c);rwa [UInt8.toNat_and] at this
theorem ZtR (m:UInt8):((m.toNat:Int) % 2 !=0)=(m&&&1 !=0):=by
 have:=Zdd m 1 1 rfl;rw [Nat.and_one_is_mod] at this;rw [←this];rfl
theorem Zfj (v:Int)(w:World):Calls Tryz.prog 37 #[.int .i64 v] w fun e w'=>e= .returned (.int .i64 (ZA v.toNat))∧w=w':=by
 by_cases h2:v=2
 · subst h2;go_enter Tryz.func37,Tryz.ntmps37
   go_wp2_with fail
   go_ret
   exact⟨rfl,rfl⟩
 · by_cases h3:v=3
   · subst h3;go_enter Tryz.func37,Tryz.ntmps37
     go_wp2_with fail
     go_ret
     exact⟨rfl,rfl⟩
   · by_cases h4:v=4
     · subst h4;go_enter Tryz.func37,Tryz.ntmps37
       go_wp2_with fail
       go_ret
       exact⟨rfl,rfl⟩
     · have e2:(v==2)=false:=by simpa using h2
       have e3:(v==3)=false:=by simpa using h3
       have e4:(v==4)=false:=by simpa using h4
       have hl:ZA v.toNat=0:=by
        unfold ZA;rw [if_neg (by omega),if_neg (by omega)]
       have Hl:=Lib.hid hl;clear hl;go_enter Tryz.func37,Tryz.ntmps37
       go_wp2_with fail
       go_ret
       exact⟨ZaA (by rw [Hl.out];rfl),rfl⟩
theorem ZtG {v:Int} (m:UInt8)(h3:v≠3)(h4:v≠4):ZU v.toNat m=false:=by
 unfold ZU;have e3:(v.toNat==3)=false:=by rw [beq_eq_false_iff_ne];omega
 have e4:(v.toNat==4)=false:=by rw [beq_eq_false_iff_ne];omega
 rw [e3,e4];rfl
theorem ZdT (id:ByteArray)(st m:UInt8)(v:Int)(w:World):
 Calls Tryz.prog 58 #[.agg #[.string id,.int .u8 st.toNat,.int .u8 m.toNat],.int .i64 v] w fun e w'=>e= .returned (.bool (ZU v.toNat m))∧Below w.heap.size w w':=by
 by_cases h3:v=3
 · subst h3;have hb:=Zcj m 192 192 rfl;have HN:=Lib.hid (Zdd m 192 192 rfl);have hl:ZU (3:Int).toNat m=(m&&&192 !=0):=by simp [ZU]
   rw [hl];go_enter Tryz.func58,Tryz.ntmps58
   go_wp2_with fail
   go_ret
   exact⟨ZcR HN.out,(Below.refl _ w).alloc (Nat.le_refl _) _⟩
 · by_cases h4:v=4
   · subst h4;have hb:=Zcj m 12 12 rfl;have HN:=Lib.hid (Zdd m 12 12 rfl);have hl:ZU (4:Int).toNat m=(m&&&12 !=0):=by simp [ZU]
     rw [hl];go_enter Tryz.func58,Tryz.ntmps58
     go_wp2_with fail
     go_ret
     exact⟨ZcR HN.out,(Below.refl _ w).alloc (Nat.le_refl _) _⟩
   · have e3:(v==3)=false:=by simpa using h3
     have e4:(v==4)=false:=by simpa using h4
     rw [ZtG m h3 h4];go_enter Tryz.func58,Tryz.ntmps58
     go_wp2_with fail
     go_ret
     exact⟨rfl,(Below.refl _ w).alloc (Nat.le_refl _) _⟩
theorem Zgf (id:ByteArray)(st m:UInt8)(v:Int)(w:World):
 Calls Tryz.prog 93 #[.agg #[.string id,.int .u8 st.toNat,.int .u8 m.toNat],.int .i64 v] w fun e w'=>e= .returned (.bool (Zab v.toNat m))∧Below w.heap.size w w':=by
 have hlk:=fun w=>ZdT id st m v w;by_cases hL:ZU v.toNat m=true
 · have hg:Zab v.toNat m=false:=by unfold Zab;rw [hL];rfl
   rw [hL] at hlk;rw [hg];clear hL hg;go_enter Tryz.func93,Tryz.ntmps93
   go_wp2_with (go_at_call 58;refine(hlk _).mono ?_;rintro e w1 ⟨rfl,hb1⟩)
   go_ret
   exact⟨rfl,Zd hb1⟩
 · have hL':ZU v.toNat m=false:=by simpa using hL
   rw [hL'] at hlk;by_cases h3:v=3
   · subst h3;have hb:=Zcj m 32 32 rfl;have HN:=Lib.hid (Zdd m 32 32 rfl);have hl:Zab (3:Int).toNat m=(m&&&32 !=0):=by
      unfold Zab;rw [hL'];simp
     rw [hl];clear hl hL hL';go_enter Tryz.func93,Tryz.ntmps93
     go_wp2_with (go_at_call 58;refine(hlk _).mono ?_;rintro e w1 ⟨rfl,hb1⟩;obtain⟨c0,c1,c2,f0,f1,f2,hlt⟩:=bx3' hb1)
     go_ret
     exact⟨ZcR HN.out,Zd hb1⟩
   · by_cases h4:v=4
     · subst h4;have hb:=Zcj m 64 64 rfl;have HN:=Lib.hid (Zdd m 64 64 rfl);have hl:Zab (4:Int).toNat m=(m&&&64 !=0):=by
        unfold Zab;rw [hL'];simp
       rw [hl];clear hl hL hL';go_enter Tryz.func93,Tryz.ntmps93
       go_wp2_with (go_at_call 58;refine(hlk _).mono ?_;rintro e w1 ⟨rfl,hb1⟩;obtain⟨c0,c1,c2,f0,f1,f2,hlt⟩:=bx3' hb1)
       go_ret
       exact⟨ZcR HN.out,Zd hb1⟩
     · have e3:(v==3)=false:=by simpa using h3
       have e4:(v==4)=false:=by simpa using h4
       have n3:(v.toNat==3)=false:=by rw [beq_eq_false_iff_ne];omega
       have n4:(v.toNat==4)=false:=by rw [beq_eq_false_iff_ne];omega
       have hg:Zab v.toNat m=false:=by unfold Zab;rw [n3,n4];simp
       rw [hg];clear hL hL' hg n3 n4;go_enter Tryz.func93,Tryz.ntmps93
       go_wp2_with (go_at_call 58;refine(hlk _).mono ?_;rintro e w1 ⟨rfl,hb1⟩)
       go_ret
       exact⟨rfl,Zd hb1⟩
theorem ZhH (id:ByteArray)(st m:UInt8)(v:Int)(w:World):
 Calls Tryz.prog 96 #[.agg #[.string id,.int .u8 st.toNat,.int .u8 m.toNat],.int .i64 v] w fun e w'=>e= .returned (.bool (Zav v.toNat m))∧Below w.heap.size w w':=by
 by_cases h4:v=4
 · subst h4;have hlk:=fun w=>ZdT id st m 4 w;by_cases hL:ZU (4:Int).toNat m=true
   · have hg:Zav (4:Int).toNat m=false:=by unfold Zav;rw [hL];simp
     rw [hL] at hlk;rw [hg];clear hL hg;go_enter Tryz.func96,Tryz.ntmps96
     go_wp2_with (go_at_call 58;refine(hlk _).mono ?_;rintro e w1 ⟨rfl,hb1⟩)
     go_ret
     exact⟨rfl,Zd hb1⟩
   · have hL':ZU (4:Int).toNat m=false:=by simpa using hL
     rw [hL'] at hlk;have hb:=Zcj m 1 1 rfl;have HN:=Lib.hid (ZtR m);have hl:Zav (4:Int).toNat m=(m&&&1 !=0):=by
      unfold Zav;rw [hL'];simp
     rw [hl];clear hl hL hL';go_enter Tryz.func96,Tryz.ntmps96
     go_wp2_with (go_at_call 58;refine(hlk _).mono ?_;rintro e w1 ⟨rfl,hb1⟩;obtain⟨c0,c1,c2,f0,f1,f2,hlt⟩:=bx3' hb1)
     go_ret
     exact⟨ZcR HN.out,Zd hb1⟩
 · have e4:(v==4)=false:=by simpa using h4
   have n4:(v.toNat==4)=false:=by rw [beq_eq_false_iff_ne];omega
   have hg:Zav v.toNat m=false:=by unfold Zav;rw [n4];rfl
   rw [hg];clear hg n4;go_enter Tryz.func96,Tryz.ntmps96
   go_wp2_with fail
   go_ret
   exact⟨rfl,(Below.refl _ w).alloc (Nat.le_refl _) _⟩
theorem ZhC (id:ByteArray)(st m:UInt8)(v:Int)(w:World):
 Calls Tryz.prog 97 #[.agg #[.string id,.int .u8 st.toNat,.int .u8 m.toNat],.int .i64 v] w fun e w'=>e= .returned (.bool (ZaK v.toNat m))∧Below w.heap.size w w':=by
 by_cases h4:v=4
 · subst h4;have hlk:=fun w=>ZdT id st m 4 w;by_cases hL:ZU (4:Int).toNat m=true
   · have hg:ZaK (4:Int).toNat m=false:=by unfold ZaK;rw [hL];simp
     rw [hL] at hlk;rw [hg];clear hL hg;go_enter Tryz.func97,Tryz.ntmps97
     go_wp2_with (go_at_call 58;refine(hlk _).mono ?_;rintro e w1 ⟨rfl,hb1⟩)
     go_ret
     exact⟨rfl,Zd hb1⟩
   · have hL':ZU (4:Int).toNat m=false:=by simpa using hL
     rw [hL'] at hlk;have hb:=Zcj m 2 2 rfl;have HN:=Lib.hid (Zdd m 2 2 rfl);have hl:ZaK (4:Int).toNat m=(m&&&2 !=0):=by
      unfold ZaK;rw [hL'];simp
     rw [hl];clear hl hL hL';go_enter Tryz.func97,Tryz.ntmps97
     go_wp2_with (go_at_call 58;refine(hlk _).mono ?_;rintro e w1 ⟨rfl,hb1⟩;obtain⟨c0,c1,c2,f0,f1,f2,hlt⟩:=bx3' hb1)
     go_ret
     exact⟨ZcR HN.out,Zd hb1⟩
 · have e4:(v==4)=false:=by simpa using h4
   have n4:(v.toNat==4)=false:=by rw [beq_eq_false_iff_ne];omega
   have hg:ZaK v.toNat m=false:=by unfold ZaK;rw [n4];rfl
   rw [hg];clear hg n4;go_enter Tryz.func97,Tryz.ntmps97
   go_wp2_with fail
   go_ret
   exact⟨rfl,(Below.refl _ w).alloc (Nat.le_refl _) _⟩
theorem ZrC (c:UInt8):Zc2 c=(!((decide ((c.toNat:Int)<65)||decide ((c.toNat:Int)>90))&&(decide ((c.toNat:Int)<48)||decide ((c.toNat:Int)>57)))):=by
 unfold Zc2 ZlK;rw [Bool.eq_iff_iff];simp;omega
theorem ZjU (t:List UInt8):∀k,k≤t.length→(∀j (h:j<t.length),j<k→Zc2 t[j]=true)→ZaB t=k+ZaB (t.drop k)
 |0,_,_=>by simp
 |k+1,hk,h=>by
  rw [ZjU t k (by omega) (fun j hj hjk=>h j hj (by omega)),List.drop_eq_getElem_cons (show k<t.length by omega),ZaB,if_pos (h k (by omega) (by omega))];omega
def WrRel (t:List UInt8)(i:Value):Prop:=∃k:Nat,k≤t.length∧i= .int .i64 k∧∀j (h:j<t.length),j<k→Zc2 t[j]=true
theorem ZkY (t:List UInt8)(ht:t.length≤1000000000)(w:World):
 Calls Tryz.prog 151 #[.string (B t)] w fun e w'=>e= .returned (.int .i64 (ZaB t))∧w=w':=by
 have hsz:=Zn t;go_enter Tryz.func151,Tryz.ntmps151
 go_wp2_with fail
 go_loop [7] (fun i=>WrRel t i) (fun i=>t.length - (intOf i).toNat)
 case atStart=>exact⟨0,by omega,rfl,fun j _ h=>by omega⟩
 case round=>
  obtain⟨k,hk,rfl,hok⟩:=hrel;have Hok:=Lib.hid hok;clear hok;by_cases hlt:k<t.length
  · have hg:=Zbb t k hlt;have hcb:=ZrC t[k];by_cases hc:Zc2 t[k]=true
    · rw [hc] at hcb;have Hc:=Lib.hid hc;have Hcb:(48≤(t[k].toNat:Int)∧(t[k].toNat:Int)≤57)∨(65≤(t[k].toNat:Int)∧(t[k].toNat:Int)≤90):=by
       simp at hcb;omega
      clear hc hcb;rcases Hcb with⟨q1,q2⟩|⟨q1,q2⟩
      · go_wp2_with fail
        go_round
        case rel=>
         refine⟨k+1,by omega,by go_num,fun j hj hjk=> ?_⟩;by_cases e:j=k
         · subst e;exact Hc.out
         · exact Hok.out j hj (by omega)
        case measure=>simp [intOf];omega
      · go_wp2_with fail
        go_round
        case rel=>
         refine⟨k+1,by omega,by go_num,fun j hj hjk=> ?_⟩;by_cases e:j=k
         · subst e;exact Hc.out
         · exact Hok.out j hj (by omega)
        case measure=>simp [intOf];omega
    · have hc':Zc2 t[k]=false:=by simpa using hc
      have hw:ZaB t=k:=by
       rw [ZjU t k hk Hok.out,List.drop_eq_getElem_cons hlt,ZaB,if_neg (by simpa using hc)];rfl
      have HW:=Lib.hid hw;rw [hc'] at hcb;have Hcb:(t[k].toNat:Int)<48∨(57<(t[k].toNat:Int)∧(t[k].toNat:Int)<65)∨90<(t[k].toNat:Int):=by
       simp at hcb;omega
      clear hc hcb hc' hw;rcases Hcb with q1|⟨q1,q2⟩|q1
      all_goals
       go_wp2_with fail
       go_ret
       exact⟨ZaA (by rw [HW.out]),rfl⟩
  · have hk2:k=t.length:=by omega
    subst hk2;have hw:ZaB t=t.length:=by
     rw [ZjU t _ hk Hok.out,List.drop_length];rfl
    have HW:=Lib.hid hw;clear hw;go_wp2_with fail
    go_ret
    exact⟨ZaA (by rw [HW.out]),rfl⟩
theorem seqB (l m:List UInt8):((B l).toList==m)=(l==m):=by rw [ByteArray.toList_eq,Za5]
theorem ZiQ (l:List UInt8):(B l).toList=l:=by rw [ByteArray.toList_eq,Za5]
theorem ZcF (s:InS)(k:Nat)(hk:k≤8):(s.big k).1<256^k:=by
 unfold InS.big;simp only [Nat.min_eq_left hk];have h1:=Zes s k;have h2:=(InS.bigN_lt (s.take k).1 (by omega)).1;exact Nat.lt_of_lt_of_le h2 (Nat.pow_le_pow_right (by decide) h1)
theorem Zhd (s:InS):s.safe.1<268435456:=by
 have hs:s.safe=match InS.high (s.take 4).1 with
  |some i=>(0,(s.take 4).2.fail 1 ((s.take 4).2.place ((s.take 4).2.n - (s.take 4).1.length+i)))
  |none=>(Za3 (s.take 4).1,(s.take 4).2):=rfl
 rw [hs];clear hs;have h1:=Zes s 4;generalize (s.take 4).1=L at*;cases hh:InS.high L with
 |some i=>simp
 |none=>
  simp only;have hall:∀j (h:j<L.length),j<L.length→L[j].toNat<128:=by
   intro j hj _;refine Classical.byContradiction fun hx=> ?_;have:∀(l:List UInt8) (j:Nat) (h:j<l.length),128≤l[j].toNat→InS.high l≠none:=by
    intro l;induction l with
    |nil=>intro j h;simp at h
    |cons a r ih=>
     intro j h hx;unfold InS.high;by_cases ha:128≤a.toNat
     · rw [if_pos ha];simp
     · rw [if_neg ha];cases j with
       |zero=>simp at hx;omega
       |succ j=>have:=ih j (by simpa using h) (by simpa using hx);simpa using this
   exact this L j hj (by omega) hh
  have h2:=InS.safeN_lt L L.length (Nat.le_refl _) hall;rw [List.take_length] at h2;have h3:(128:Nat)^L.length≤128^4:=Nat.pow_le_pow_right (by decide) h1;have h4:(128:Nat)^4=268435456:=by decide
  omega
theorem ZqF (K:Nat)(s:InS)(v:Int)(w:World)(h:InAt w K s):
 Calls Tryz.prog 152 #[.int .i64 v,.pointer (some ⟨K,0,none⟩)] w (Zh K w (.int .i64 ((ZbV v.toNat s).1:Nat)) (ZbV v.toNat s).2):=by
 have H:=Lib.hid h;by_cases h2:v=2
 · subst h2;have hs:ZbV (2:Int).toNat s=s.big 3:=rfl;rw [hs];have hlt:=ZcF s 3 (by omega);have hlt2:(256:Nat)^3=16777216:=by decide
   rw [hlt2] at hlt;have hb:=fun w h=>ZcZ K s 3 (by omega) w h;unfold Zh at hb;generalize hP:Zh K w (.int .i64 ((s.big 3).1:Nat)) (s.big 3).2=P at*;generalize (s.big 3).1=N at*;generalize (s.big 3).2=s2 at*;clear h hlt2 hs;go_enter Tryz.func152,Tryz.ntmps152
   go_wp2_with (go_at_call 71;refine(hb _ H.out).mono ?_;rintro e w1 ⟨rfl,h1,hb1⟩)
   show P (.returned (.int .i64 N)) _
   rw [←hP];exact⟨rfl,h1,hb1⟩
 · by_cases h3:v=3
   · subst h3;have hs:ZbV (3:Int).toNat s=s.big 4:=rfl;rw [hs];have hlt:=ZcF s 4 (by omega);have hlt2:(256:Nat)^4=4294967296:=by decide
     rw [hlt2] at hlt;have hb:=fun w h=>ZcZ K s 4 (by omega) w h;unfold Zh at hb;generalize hP:Zh K w (.int .i64 ((s.big 4).1:Nat)) (s.big 4).2=P at*;generalize (s.big 4).1=N at*;generalize (s.big 4).2=s2 at*;clear h hlt2 hs;go_enter Tryz.func152,Tryz.ntmps152
     go_wp2_with (go_at_call 71;refine(hb _ H.out).mono ?_;rintro e w1 ⟨rfl,h1,hb1⟩)
     show P (.returned (.int .i64 N)) _
     rw [←hP];exact⟨rfl,h1,hb1⟩
   · have hs:ZbV v.toNat s=s.safe:=by
      unfold ZbV;rw [if_neg (by omega),if_neg (by omega)]
     rw [hs];have e2:(v==2)=false:=by simpa using h2
     have e3:(v==3)=false:=by simpa using h3
     have hb:=fun w h=>Zgl K s w h;unfold Zh at hb;generalize hP:Zh K w (.int .i64 ((s.safe).1:Nat)) (s.safe).2=P at*;generalize (s.safe).1=N at*;generalize (s.safe).2=s2 at*;clear h hs;go_enter Tryz.func152,Tryz.ntmps152
     go_wp2_with (go_at_call 82;refine(hb _ H.out).mono ?_;rintro e w1 ⟨rfl,h1,hb1⟩)
     show P (.returned (.int .i64 N)) _
     rw [←hP];exact⟨rfl,h1,hb1⟩
def six (f:Fr):Array Value:=#[.string (B f.id),.int .u8 f.st.toNat,.int .u8 f.fm.toNat,.int .u8 f.grp.toNat,.string (B f.body),.int .i64 f.at_]
def Zq (w:World)(F:Nat)(f:Fr):Prop:=w.heap[F]? =some (.cells (six f) 33 (0,0))
section
variable {w w':World} {F:Nat} {f:Fr}
theorem Zq.lt (h:Zq w F f):F<w.heap.size:=(Array.getElem?_eq_some_iff.1 h).1
theorem Zq.get (h:Zq w F f):w.cell? ⟨F,0,none⟩=some (.string (B f.id))∧w.cell? ⟨F,1,none⟩=some (.int .u8 f.st.toNat)∧w.cell? ⟨F,2,none⟩=some (.int .u8 f.fm.toNat)∧w.cell? ⟨F,3,none⟩=some (.int .u8 f.grp.toNat)∧w.cell? ⟨F,4,none⟩=some (.string (B f.body))∧w.cell? ⟨F,5,none⟩=some (.int .i64 f.at_):=by
 refine⟨?_,?_,?_,?_,?_,?_⟩<;>(rw [cell_of_row _ F _ _ _ (0,0) h];rfl)
theorem Zq.free (h:Zq w F f)(j:Nat):w.frozen? ⟨F,j,none⟩=false:=frozen_of_row _ F j _ _ h
theorem Zq.below (h:Zq w F f)(hb:Below w.heap.size w w'):Zq w' F f:=(hb.block F (Zq.lt h)).trans h
theorem Zq.but {C:Nat} (h:Zq w F f)(hb:But C w.heap.size w w')(hC:F≠C):Zq w' F f:=(hb.block F (Zq.lt h) hC).trans h
theorem Zq.alloc (h:Zq w F f)(o:Obj):Zq (w.alloc o) F f:=h.below ((Below.refl _ _).alloc (Nat.le_refl _) _)
theorem Zq.setGrp (h:Zq w F f)(g:UInt8)(z:Int)(hz:z=g.toNat):Zq (w.setCell ⟨F,3,none⟩ (.int .u8 z)) F {f with grp:=g}:=by
 subst hz;unfold Zq;rw [heap_setCell_same w F 3 _ _ _ h];rfl
theorem Zq.setBody (h:Zq w F f)(b:List UInt8):Zq (w.setCell ⟨F,4,none⟩ (.string (B b))) F {f with body:=b}:=by
 unfold Zq;rw [heap_setCell_same w F 4 _ _ _ h];rfl
end
theorem Zki (t:List UInt8)(z:Int)(h0:0≤z)(h1:z+t.length≤1000000000)(w:World):
 Calls Tryz.prog 74 #[.string (B t),.int .i64 z] w fun e w'=>∃K,e= .returned (.pointer (some ⟨K,0,none⟩))∧InAt w' K ⟨t,0,z.toNat,0,0⟩∧Below w.heap.size w w'∧w.heap.size≤K∧K<w'.heap.size:=
 (Zkh t z h0 h1 w).mono fun _ _ ⟨a,b,c,d⟩=>⟨_,a,b,c,Nat.le_refl _,by omega⟩
def ZdR (F:Nat)(w:World)(r:Except (Nat×Nat) Fr)(e:Ending)(w':World):Prop:=But F w.heap.size w w'∧match r with
 | .ok f=>e= .returned (.agg #[.int .i64 0,.int .i64 0])∧Zq w' F f
 | .error x=>e= .returned (.agg #[.int .i64 x.1,.int .i64 x.2])∧x.1≠0
def Bx (w:World)(g:Nat)(cs:Array Value)(T:TypeId):Prop:=w.heap[g]? =some (.cells cs T (0,0))
section
variable {w w':World} {g:Nat} {cs:Array Value} {T:TypeId}
theorem Bx.new (w:World)(cs:Array Value)(T:TypeId):Bx (w.alloc (.cells cs T)) w.heap.size cs T:=heap_alloc_new w _
theorem Bx.lt (h:Bx w g cs T):g<w.heap.size:=(Array.getElem?_eq_some_iff.1 h).1
theorem Bx.below (h:Bx w g cs T)(hb:Below w.heap.size w w'):Bx w' g cs T:=(hb.block g (Bx.lt h)).trans h
theorem Bx.but {C:Nat} (h:Bx w g cs T)(hb:But C w.heap.size w w')(hC:g≠C):Bx w' g cs T:=(hb.block g (Bx.lt h) hC).trans h
theorem Bx.alloc (h:Bx w g cs T)(o:Obj):Bx (w.alloc o) g cs T:=h.below ((Below.refl _ _).alloc (Nat.le_refl _) _)
theorem Bx.set {k:Nat} (h:Bx w g cs T)(hk:g≠k)(j:Nat)(v:Value):Bx (w.setCell ⟨k,j,none⟩ v) g cs T:=(Ze9 hk v).trans h
theorem Bx.cell (h:Bx w g cs T)(j:Nat):w.cell? ⟨g,j,none⟩=cs[j]?:=cell_of_row _ g j _ _ (0,0) h
theorem Bx.put (h:Bx w g cs T)(j:Nat)(v:Value):Bx (w.setCell ⟨g,j,none⟩ v) g (cs.setIfInBounds j v) T:=heap_setCell_same w g j _ _ v h
theorem Bx.free (h:Bx w g cs T)(j:Nat):w.frozen? ⟨g,j,none⟩=false:=frozen_of_row _ g j _ _ h
theorem Zq.set {k:Nat} {f:Fr} {F:Nat} (h:Zq w F f)(hk:F≠k)(j:Nat)(v:Value):Zq (w.setCell ⟨k,j,none⟩ v) F f:=(Ze9 hk v).trans h
end
structure FSt (w0 wx:World)(F R K:Nat)(f:Fr)(s:InS):Prop where
 frame:Zq wx F f
 inn:InAt wx K s
 res:Bx wx R #[.int .i64 0,.int .i64 0] 39
 but:But F w0.heap.size w0 wx
 hF:F<w0.heap.size
 hR:R=w0.heap.size
 hK:R<K
section
variable {w0 w w':World} {F R K:Nat} {f:Fr} {s s':InS}
theorem FSt.below (h:FSt w0 w F R K f s)(hb:Below w.heap.size w w'):FSt w0 w' F R K f s:=
 ⟨h.frame.below hb,h.inn.below hb,h.res.below hb,h.but.trans (.of (hb.mono h.but.size)),h.hF,h.hR,h.hK⟩
theorem FSt.butK (h:FSt w0 w F R K f s)(hi:InAt w' K s')(hb:But K w.heap.size w w'):FSt w0 w' F R K f s':=
 ⟨h.frame.but hb (by have:=h.hF;have:=h.hR;have:=h.hK;omega),hi,h.res.but hb (by have:=h.hK;omega),h.but.trans (.of ((hb.mono h.but.size).below (by have:=h.hR;have:=h.hK;omega))),h.hF,h.hR,h.hK⟩
theorem FSt.alloc (h:FSt w0 w F R K f s)(o:Obj):FSt w0 (w.alloc o) F R K f s:=h.below ((Below.refl _ _).alloc (Nat.le_refl _) _)
theorem FSt.setGrp (h:FSt w0 w F R K f s)(g:UInt8)(z:Int)(hz:z=g.toNat):FSt w0 (w.setCell ⟨F,3,none⟩ (.int .u8 z)) F R K {f with grp:=g} s:=
 ⟨h.frame.setGrp g z hz,h.inn.set (by have:=h.hF;have:=h.hR;have:=h.hK;omega) _ _,h.res.set (by have:=h.hF;have:=h.hR;omega) _ _,h.but.setCell (p:=⟨F,3,none⟩) (.inr rfl) _,h.hF,h.hR,h.hK⟩
theorem FSt.setBody (h:FSt w0 w F R K f s)(b:List UInt8):FSt w0 (w.setCell ⟨F,4,none⟩ (.string (B b))) F R K {f with body:=b} s:=
 ⟨h.frame.setBody b,h.inn.set (by have:=h.hF;have:=h.hR;have:=h.hK;omega) _ _,h.res.set (by have:=h.hF;have:=h.hR;omega) _ _,h.but.setCell (p:=⟨F,4,none⟩) (.inr rfl) _,h.hF,h.hR,h.hK⟩
theorem FSt.cells (h:FSt w0 w F R K f s):(w.cell? ⟨F,0,none⟩=some (.string (B f.id))∧w.cell? ⟨F,1,none⟩=some (.int .u8 f.st.toNat)∧w.cell? ⟨F,2,none⟩=some (.int .u8 f.fm.toNat)∧(∃u,w.cell? ⟨F,3,none⟩=some u)∧w.cell? ⟨F,4,none⟩=some (.string (B f.body)))∧
 w.cell? ⟨R,0,none⟩=some (.int .i64 0)∧w.cell? ⟨R,1,none⟩=some (.int .i64 0)∧(w.frozen? ⟨F,3,none⟩=false∧w.frozen? ⟨F,4,none⟩=false∧w.frozen? ⟨R,0,none⟩=false∧w.frozen? ⟨R,1,none⟩=false)∧F<w.heap.size∧R<w.heap.size:=by
 obtain⟨c0,c1,c2,c3,c4,c5⟩:=h.frame.get;exact⟨⟨c0,c1,c2,⟨_,c3⟩,c4⟩,h.res.cell 0,h.res.cell 1,⟨h.frame.free 3,h.frame.free 4,h.res.free 0,h.res.free 1⟩,h.frame.lt,h.res.lt⟩
end
theorem Zpu (F:Nat)(f:Fr)(v:Int)(data:List UInt8)(z:Int)(w:World)(h:Zq w F f)(hl:ZU v.toNat f.fm=true):
 Calls Tryz.prog 153 #[.pointer (some ⟨F,0,none⟩),.int .i64 v,.string (B data),.int .i64 z] w (ZdR F w (ZbO v.toNat f data z.toNat)):=by
 have hR:ZbO v.toNat f data z.toNat= .ok {f with body:=data}:=by unfold ZbO;rw [if_pos hl]
 rw [hR];generalize hP:ZdR F w (.ok {f with body:=data})=P at*;have hlk:=fun w=>ZdT (B f.id) f.st f.fm v w;rw [hl] at hlk;have H:=Lib.hid h;obtain⟨c0,c1,c2,c3,c4,c5⟩:=h.get;have f4:=h.free 4;have hlt:=h.lt;clear h hR hl;go_enter Tryz.func153,Tryz.ntmps153
 go_wp2_with (go_at_call 58;refine(hlk _).mono ?_;rintro e w1 ⟨rfl,hb1⟩;have h1:=Lib.hid ((H.out.alloc _).below hb1);have hB1:=Lib.hid (Zd hb1);obtain⟨d0,d1,d2,d3,d4,d5⟩:=h1.out.get;have g4:=h1.out.free 4;have hlt1:=h1.out.lt;have hz1:=Zac hb1;have hx:=(Bx.new w _ _).below hb1;have x0:=hx.cell 0;have x1:=hx.cell 1;have y0:=hx.free 0;have y1:=hx.free 1;clear hx)
 have hr:=((((Bx.new w _ _).below hb1).set (k:=F) (by omega) 4 (.string (B data))).put 0 (.int .i64 0)).put 1 (.int .i64 0);refine bodyPost_ret (results_cell_row rfl _ _ w.heap.size _ _ _ _ rfl hr Tryz.underlying39 rfl (by kernel_rfl)) rfl ?_;rw [←hP];exact⟨(((But.of hB1.out).setCell (p:=⟨F,4,none⟩) (.inr rfl) _).setCell (p:=⟨w.heap.size,0,none⟩) (.inl (Nat.le_refl _)) _).setCell (p:=⟨w.heap.size,1,none⟩) (.inl (Nat.le_refl _)) _,rfl,((h1.out.setBody data).set (by omega) _ _).set (by omega) _ _⟩
end Go.Proofs.YtlhllehffkoloaaGreatDoor
