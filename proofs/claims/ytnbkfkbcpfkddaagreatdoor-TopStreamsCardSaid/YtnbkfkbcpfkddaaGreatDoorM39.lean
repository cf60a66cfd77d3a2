/- Lemmas for a statement on the tops; conditions: as each says. -/
import Derived.Test.YtnbkfkbcpfkddaaGreatDoorM38
set_option linter.unusedVariables false
set_option linter.unusedSimpArgs false
set_option maxRecDepth 100000
set_option maxHeartbeats 1000000
namespace Go.Proofs.YtnbkfkbcpfkddaaGreatDoor
open Go Go.RowKit
structure OkSt (w wx:World)(XA:Array Value):Prop where
 x:Bx wx w.heap.size XA 36
 r:Bx wx (w.heap.size+1) #[.int .i64 0,.int .i64 0] 45
 low:Below w.heap.size w wx
theorem OkSt.below {w wx wy:World} {XA:Array Value} (h:OkSt w wx XA)(hb:Below wx.heap.size wx wy):OkSt w wy XA:=⟨h.x.below hb,h.r.below hb,h.low.trans (hb.mono h.low.size)⟩
theorem OkSt.alloc {w wx:World} {XA:Array Value} (h:OkSt w wx XA)(o:Obj):OkSt w (wx.alloc o) XA:=h.below ((Below.refl _ _).alloc (Nat.le_refl _) _)
theorem OkSt.mk0 (w:World)(XA:Array Value):OkSt w ((w.alloc (.cells XA 36)).alloc (.cells #[.int .i64 0,.int .i64 0] 45)) XA:=
 ⟨(Bx.new w _ _).alloc _,by have:=Bx.new (w.alloc (.cells XA 36)) #[.int .i64 0,.int .i64 0] 45;rw [World.size_alloc] at this;exact this,((Below.refl _ _).alloc (Nat.le_refl _) _).alloc (by simp) _⟩
theorem OkSt.fin {w wx:World} {XA:Array Value} (h:OkSt w wx XA)(a b:Value):Bx ((wx.setCell ⟨w.heap.size+1,0,none⟩ a).setCell ⟨w.heap.size+1,1,none⟩ b) (w.heap.size+1) #[a,b] 45∧Below w.heap.size w ((wx.setCell ⟨w.heap.size+1,0,none⟩ a).setCell ⟨w.heap.size+1,1,none⟩ b):=
 ⟨Za9 h.r a b,(h.low.setCell (p:=⟨w.heap.size+1,0,none⟩) (Nat.le_succ _) a).setCell (p:=⟨w.heap.size+1,1,none⟩) (Nat.le_succ _) b⟩
theorem OkSt.cells {w wx:World} {p:Pg} {v:List UInt8} {vs:Int} {vn:Value} {setup:List UInt8} {vso:Value} (h:OkSt w wx (stV p v vs vn setup vso)):
 (wx.cell? ⟨w.heap.size,0,none⟩=some (.int .u8 p.fl.toNat)∧wx.cell? ⟨w.heap.size,1,none⟩=some (.int .u64 (p.pos:Nat))∧wx.cell? ⟨w.heap.size,2,none⟩=some (.int .u32 (p.ser:Nat))∧wx.cell? ⟨w.heap.size,3,none⟩=some (.int .u32 (p.num:Nat))∧wx.cell? ⟨w.heap.size,4,none⟩=some (.string (B p.laces))∧wx.cell? ⟨w.heap.size,5,none⟩=some (.string (B p.body))∧
  wx.cell? ⟨w.heap.size,6,none⟩=some (.string (B v))∧wx.cell? ⟨w.heap.size,7,none⟩=some (.int .i64 vs)∧wx.cell? ⟨w.heap.size,8,none⟩=some vn∧wx.cell? ⟨w.heap.size,9,none⟩=some (.string (B setup))∧wx.cell? ⟨w.heap.size,10,none⟩=some vso)∧
 (wx.cell? ⟨w.heap.size+1,0,none⟩=some (.int .i64 0)∧wx.cell? ⟨w.heap.size+1,1,none⟩=some (.int .i64 0))∧(∀j,wx.frozen? ⟨w.heap.size+1,j,none⟩=false)∧w.heap.size<wx.heap.size∧w.heap.size+1<wx.heap.size:=
 ⟨⟨h.x.cell 0,h.x.cell 1,h.x.cell 2,h.x.cell 3,h.x.cell 4,h.x.cell 5,h.x.cell 6,h.x.cell 7,h.x.cell 8,h.x.cell 9,h.x.cell 10⟩,⟨h.r.cell 0,h.r.cell 1⟩,h.r.free,h.x.lt,h.r.lt⟩
def OkRel (w:World)(XA:Array Value)(ser:Nat)(l:List Pg)(i:Value)(wx:World):Prop:=∃k:Nat,k≤l.length∧i= .int .i64 k∧OkSt w wx XA∧Z8 ser true l=Z8 ser (k==0) (l.drop k)
theorem Znq {ser:Nat} {l:List Pg} {k:Nat} {p:Pg} (h:l[k]? =some p):Z8 ser (k==0) (l.drop k)=(ZcQ ser (k==0) p&&Z8 ser (k+1==0) (l.drop (k+1))):=by
 rw [(Zb6 h).1,Z8];rfl
theorem Zl9 (x:Sx)(hl:LightO x)(ht:SxTy x)(vs:Int)(A AN:Option Addr)(c cN:Nat)(w:World)(hG:Grd w)(h:RdN 6 pgL w w.heap.size A x.sound)(h2:RdN 3 nxV w w.heap.size AN x.ns):
 Calls Tryz.prog 30 #[.agg (stV x.first x.v vs (.slice AN x.ns.length cN) x.setup (.slice A x.sound.length c))] w (CkV w (ckS x)):=by
 have HPt:Hid (ckS x=true→∀w',Below w.heap.size w w'→CkV w (ckS x) (.returned (.agg #[.int .i64 0,.int .i64 0])) w'):=Lib.hid fun h w' hb=>⟨0,0,rfl,by rw [h];exact⟨rfl,rfl⟩,hb⟩
 have HPf:Hid (ckS x=false→∀(n a:Int) w',1≤n→Below w.heap.size w w'→CkV w (ckS x) (.returned (.agg #[.int .i64 n,.int .i64 a])) w'):=Lib.hid fun h n a w' h1 hb=>⟨n,a,rfl,by rw [h];exact h1,hb⟩
 generalize CkV w (ckS x)=P at*;have hffit:PgFit x.first:=⟨ht.first.pos,ht.first.ser,ht.first.num,by have:=hl.fl;omega,by have:=hl.fb;omega⟩
 have hop:=fun w=>ZhW x.first hffit w;unfold pgA at hop;have hck:∀wx,Below w.heap.size w wx→Calls Tryz.prog 76 #[.agg #[.string (B x.v),.int .i64 vs,.slice AN x.ns.length cN]] wx (CkV wx (ckC x.v x.ns)):=fun wx hb=>ZhG x.v vs AN cN x.ns (by have:=hl.vend;omega) (fun n hn=>by have:=hl.note n hn;omega) wx (hG.below hb) ((h2.below hb).more hb.size);unfold CkV at hck;have hbf:=fun(n a:Int) (h:1≤n) w=>Za5 n a (by omega) w;have hbt:=fun w=>ZT 0 0 rfl w;have hpf:∀w,Calls Tryz.prog 38 #[.string (B x.setup),.string ⟨#[5,118,111,114,98,105,115]⟩] w fun e w'=>e= .returned (.bool (Zd2.isPrefixOf x.setup))∧w=w':=fun w=>(Tryz.strings_HasPrefix (B x.setup) _ w).mono fun e w' h=>⟨by rw [h.1,Zbw];rfl,h.2.symm⟩
 have HCK:Hid (ckS x=(Za0 x.first&&(x.first.num==0&&(ckC x.v x.ns&&(Zd2.isPrefixOf x.setup&&Z8 x.first.ser true x.sound))))):=Lib.hid rfl;have S0:=Lib.hid (OkSt.mk0 w (stV x.first x.v vs (.slice AN x.ns.length cN) x.setup (.slice A x.sound.length c)));have HR:=Lib.hid h;have HT:=Lib.hid ht.sound;have HLs:=Lib.hid hl.snd;have hn10:=hl.snl;generalize ckS x=RES at*;generalize Za0 x.first=bo at*;generalize ckC x.v x.ns=bc at*;generalize Zd2.isPrefixOf x.setup=bs at*;clear h h2 hl ht hG hffit;obtain⟨⟨c0,c1,c2,c3,c4,c5,c6,c7,c8,c9,c10⟩,⟨r0,r1⟩,rf,l1,l2⟩:=S0.out.cells;cases bo with
 |false=>
  have HC:Hid (RES=false):=Lib.hid (by rw [HCK.out];rfl);unfold stV at*;go_enter Tryz.func30,Tryz.ntmps30
  go_wp2_with (go_at_call 50;(with_reducible refine(hop _).mono ?_);rintro e w1 ⟨rfl,hb1⟩;have S1:=Lib.hid (S0.out.below hb1);clear hb1;clear c0 c1 c2 c3 c4 c5 c6 c7 c8 c9 c10 r0 r1 rf l1 l2;obtain⟨⟨c0,c1,c2,c3,c4,c5,c6,c7,c8,c9,c10⟩,⟨r0,r1⟩,rf,l1,l2⟩:=S1.out.cells)
  have F:=S1.out.fin (.int .i64 5) (.int .i64 0);refine bodyPost_ret (results_cell_row rfl _ _ (w.heap.size+1) _ _ _ _ rfl F.1 Tryz.underlying45 rfl (by kernel_rfl)) rfl ?_;exact HPf.out HC.out 5 _ _ (by omega) F.2
 |true=>
  by_cases hnum:x.first.num=0
  case neg=>
   have HC:Hid (RES=false):=Lib.hid (by rw [HCK.out,show(x.first.num==0)=false by simpa using hnum];rfl);have hq:((x.first.num:Int)==0)=false:=by rw [beq_eq_false_iff_ne];omega
   have hq2:((x.first.num:Int) !=0)=true:=by rw [bne,hq];rfl
   unfold stV at*;go_enter Tryz.func30,Tryz.ntmps30
   go_wp2_with (go_at_call 50;(with_reducible refine(hop _).mono ?_);rintro e w1 ⟨rfl,hb1⟩;have S1:=Lib.hid (S0.out.below hb1);clear hb1;clear c0 c1 c2 c3 c4 c5 c6 c7 c8 c9 c10 r0 r1 rf l1 l2;obtain⟨⟨c0,c1,c2,c3,c4,c5,c6,c7,c8,c9,c10⟩,⟨r0,r1⟩,rf,l1,l2⟩:=S1.out.cells)
   have F:=S1.out.fin (.int .i64 5) (.int .i64 0);refine bodyPost_ret (results_cell_row rfl _ _ (w.heap.size+1) _ _ _ _ rfl F.1 Tryz.underlying45 rfl (by kernel_rfl)) rfl ?_;exact HPf.out HC.out 5 _ _ (by omega) F.2
  have hck0:=HCK.out;rw [show(x.first.num==0)=true by simpa using hnum,Bool.true_and,Bool.true_and] at hck0;have hq:((x.first.num:Int)==0)=true:=by rw [beq_iff_eq];omega
  have hq2:((x.first.num:Int) !=0)=false:=by rw [bne,hq];rfl
  have HCK1:=Lib.hid hck0;clear hck0 HCK hnum;unfold stV at*;go_enter Tryz.func30,Tryz.ntmps30
  go_upto_region 3 with(go_at_call 50;(with_reducible refine(hop _).mono ?_);rintro e w1 ⟨rfl,hb1⟩;have S1:=Lib.hid (S0.out.below hb1);clear hb1;clear c0 c1 c2 c3 c4 c5 c6 c7 c8 c9 c10 r0 r1 rf l1 l2;obtain⟨⟨c0,c1,c2,c3,c4,c5,c6,c7,c8,c9,c10⟩,⟨r0,r1⟩,rf,l1,l2⟩:=S1.out.cells)
  cases bc with
  |false=>
   have HC:Hid (RES=false):=Lib.hid (by rw [HCK1.out];rfl);go_wp2_with (first
    |(go_at_call 76;(with_reducible refine(hck _ S1.out.low).mono ?_);rintro e w2 ⟨n,a,rfl,h1,hb2⟩;have H1:1≤n:=h1;have S2:=Lib.hid ((S1.out.below hb2).alloc (.cells #[.int .i64 n,.int .i64 a] 45));have X2:=Lib.hid (Bx.new w2 #[.int .i64 n,.int .i64 a] 45);clear hb2 h1)
    |(go_at_call 8;(with_reducible refine(hbf _ _ H1 _).mono ?_);rintro e w3 ⟨rfl,hb3⟩;have S3:=Lib.hid (S2.out.below hb3);have X3:=Lib.hid (X2.out.below hb3);obtain⟨x0,x1⟩:=X3.out.two;clear hb3;clear c0 c1 c2 c3 c4 c5 c6 c7 c8 c9 c10 r0 r1 rf l1 l2;obtain⟨⟨c0,c1,c2,c3,c4,c5,c6,c7,c8,c9,c10⟩,⟨r0,r1⟩,rf,l1,l2⟩:=S3.out.cells))
   have F:=S3.out.fin (.int .i64 n) (.int .i64 1);refine bodyPost_ret (results_cell_row rfl _ _ (w.heap.size+1) _ _ _ _ rfl F.1 Tryz.underlying45 rfl (by kernel_rfl)) rfl ?_;exact HPf.out HC.out n _ _ H1 F.2
  |true=>
   go_upto_region 6 with(first
    |(go_at_call 76;(with_reducible refine(hck _ S1.out.low).mono ?_);rintro e w2 ⟨n,a,rfl,h1,hb2⟩;obtain⟨rfl,rfl⟩:n=0∧a=0:=h1;have S2:=Lib.hid ((S1.out.below hb2).alloc (.cells #[.int .i64 0,.int .i64 0] 45));clear hb2)
    |(go_at_call 8;(with_reducible refine(hbt _).mono ?_);rintro e w3 ⟨rfl,hb3⟩;have S3:=Lib.hid (S2.out.below hb3);clear hb3;clear c0 c1 c2 c3 c4 c5 c6 c7 c8 c9 c10 r0 r1 rf l1 l2;obtain⟨⟨c0,c1,c2,c3,c4,c5,c6,c7,c8,c9,c10⟩,⟨r0,r1⟩,rf,l1,l2⟩:=S3.out.cells))
   cases bs with
   |false=>
    have HC:Hid (RES=false):=Lib.hid (by rw [HCK1.out];rfl);go_wp2_with (go_at_call 38;(with_reducible refine(hpf _).mono ?_);rintro e w7 ⟨rfl,rfl⟩)
    have F:=S3.out.fin (.int .i64 5) (.int .i64 2);refine bodyPost_ret (results_cell_row rfl _ _ (w.heap.size+1) _ _ _ _ rfl F.1 Tryz.underlying45 rfl (by kernel_rfl)) rfl ?_;exact HPf.out HC.out 5 _ _ (by omega) F.2
   |true=>
    have HCK2:Hid (RES=Z8 x.first.ser true x.sound):=Lib.hid HCK1.out;clear HCK1 hck hop hq hq2;go_wp2_with (go_at_call 38;(with_reducible refine(hpf _).mono ?_);rintro e w7 ⟨rfl,rfl⟩)
    clear hpf;go_loopw [35] (fun i wx=>OkRel w (stV x.first x.v vs (.slice AN x.ns.length cN) x.setup (.slice A x.sound.length c)) x.first.ser x.sound i wx) (fun i _=>x.sound.length - (intOf i).toNat)
    case atStart=>exact⟨0,Nat.zero_le _,rfl,S3.out,rfl⟩
    case round=>
     obtain⟨k,hk,rfl,hst,hsem⟩:=hrel;have ST:=Lib.hid hst;have HS:=Lib.hid hsem;clear hst hsem;clear c0 c1 c2 c3 c4 c5 c6 c7 c8 c9 c10 r0 r1 rf l1 l2;obtain⟨⟨c0,c1,c2,c3,c4,c5,c6,c7,c8,c9,c10⟩,⟨r0,r1⟩,rf,l1,l2⟩:=ST.out.cells;by_cases hlt:k<x.sound.length
     · obtain⟨p,hk1⟩:∃p,x.sound[k]? =some p:=⟨_,List.getElem?_eq_getElem hlt⟩
       have hmem:=List.mem_of_getElem? hk1;have hty:=HT.out p hmem;have hfit:PgFit p:=⟨hty.pos,hty.ser,hty.num,by have:=HLs.out p hmem;omega,by have:=HLs.out p hmem;omega⟩
       obtain⟨ad,rfl,hadb,y0,y1,y2,y3,y4,y5⟩:=(HR.out.below ST.out.low).page hk1;have hbl:ad.block<wr.heap.size:=Nat.lt_of_lt_of_le hadb ST.out.low.size;have hst2:=HS.out;rw [Znq hk1] at hst2;have HS2:=Lib.hid hst2;have hpc:=fun w=>ZfI p hfit w;obtain⟨⟨a,b⟩,hab⟩:∃q,q=Zab p:=⟨_,rfl⟩
       rw [←hab] at hpc;have hb0:b=0:=by have:=ZiB p;rw [←hab] at this;exact this
       subst hb0;unfold Zdv pgA at hpc;have hso:ZcQ x.first.ser (k==0) p=(Zab p==(0,0)&&(p.ser==x.first.ser&&(!(p.fl&&&2==2)&& !((k==0)&&p.fl&&&1==1)))):=rfl;have h1c:=fun x1 x2 x3 w=>ZcV p.fl 1 1 rfl x1 x2 x3 w;have h2c:=fun x1 x2 x3 w=>ZcV p.fl 2 2 rfl x1 x2 x3 w;rw [←hab] at hso;have HSO:=Lib.hid hso;have P0:=Lib.hid (Bx.new wr #[.int .u8 p.fl.toNat,.int .u64 (p.pos:Nat),.int .u32 (p.ser:Nat),.int .u32 (p.num:Nat),.string (B p.laces),.string (B p.body)] 27);have T0:=Lib.hid (ST.out.alloc (.cells #[.int .u8 p.fl.toNat,.int .u64 (p.pos:Nat),.int .u32 (p.ser:Nat),.int .u32 (p.num:Nat),.string (B p.laces),.string (B p.body)] 27));have hw3:IntKind.i64.wrap (3+(k:Int))=3+(k:Int):=by rw [IntKind.wrap_i64];omega
       clear hk1 hmem hty hfit hst2 hso hab HS;generalize hf1:(p.fl&&&1==1)=f1 at*;generalize hf2:(p.fl&&&2==2)=f2 at*;clear hf1 hf2;go_upto_region 11 with fail
       go_cut [6] (fun s6 wx=>s6= .bool ((k==0)&&f1)∧OkSt w wx (stV x.first x.v vs (.slice AN x.ns.length cN) x.setup (.slice (some ad) x.sound.length c))∧Bx wx wr.heap.size #[.int .u8 p.fl.toNat,.int .u64 (p.pos:Nat),.int .u32 (p.ser:Nat),.int .u32 (p.num:Nat),.string (B p.laces),.string (B p.body)] 27)
       case first=>
        obtain⟨p0,p1,p2,p3,p4,p5⟩:=P0.out.six;have pl:=P0.out.lt;by_cases hk0:k=0
        · subst hk0;have hz:(((0:Nat):Int)==0)=true:=rfl;simp only [show((0:Nat):Int)=0 from rfl];go_wp2_with (go_at_call 77;(with_reducible refine(h1c _ _ _ _).mono ?_);rintro e w4 ⟨rfl,hb⟩;have T1:=Lib.hid (T0.out.below hb);have P1:=Lib.hid (P0.out.below hb);clear hb)
          go_meet
          exact⟨rfl,T1.out,P1.out⟩
        · have hz:((k:Int)==0)=false:=by rw [beq_eq_false_iff_ne];omega
          have hz2:(k==0)=false:=by simpa using hk0
          have hz3:¬(k:Int)=0:=by omega
          go_wp2_with fail
          go_meet
          exact⟨by rw [hz2];rfl,T0.out,P0.out⟩
       obtain⟨rfl,ht1,hp1⟩:=hcut;have T1:=Lib.hid ht1;have P1:=Lib.hid hp1;generalize hgo:((k==0)&&f1)=go at*;clear ht1 hp1 T0 P0 y0 y1 y2 y3 y4 y5;clear c0 c1 c2 c3 c4 c5 c6 c7 c8 c9 c10 r0 r1 rf l1 l2;obtain⟨⟨c0,c1,c2,c3,c4,c5,c6,c7,c8,c9,c10⟩,⟨r0,r1⟩,rf,l1,l2⟩:=T1.out.cells;obtain⟨p0,p1,p2,p3,p4,p5⟩:=P1.out.six;have pl:=P1.out.lt;by_cases ha:a=0
       · subst ha;rw [show(((0,0):Nat×Nat)==(0,0))=true from rfl,Bool.true_and] at HSO;have A1:Hid (ZcQ x.first.ser (k==0) p=(p.ser==x.first.ser&&(!f2&& !go))):=Lib.hid (by rw [HSO.out]);clear HSO;by_cases hsr:p.ser=x.first.ser
         · have hse:((p.ser:Int)==(x.first.ser:Int))=true:=by rw [beq_iff_eq];omega
           have hse2:((p.ser:Int) !=(x.first.ser:Int))=false:=by rw [bne,hse];rfl
           have A2:Hid (ZcQ x.first.ser (k==0) p=(!f2&& !go)):=Lib.hid (by rw [A1.out,show(p.ser==x.first.ser)=true by simpa using hsr,Bool.true_and]);clear A1 hsr;cases f2 with
           |true=>
            have HC:Hid (RES=false):=Lib.hid (by rw [HCK2.out,HS2.out,A2.out];rfl);go_wp2_with (first
             |(go_at_call 33;(with_reducible refine(hpc _).mono ?_);rintro e w4 ⟨rfl,hb⟩;have T2:=Lib.hid (T1.out.below hb);have P2:=Lib.hid (P1.out.below hb);clear hb)
             |(go_at_call 8;(with_reducible refine(hbt _).mono ?_);rintro e w5 ⟨rfl,hb⟩;have T3:=Lib.hid (T2.out.below hb);have P3:=Lib.hid (P2.out.below hb);clear hb p0 p1 p2 p3 p4 p5 pl;clear c0 c1 c2 c3 c4 c5 c6 c7 c8 c9 c10 r0 r1 rf l1 l2;obtain⟨⟨c0,c1,c2,c3,c4,c5,c6,c7,c8,c9,c10⟩,⟨r0,r1⟩,rf,l1,l2⟩:=T3.out.cells;obtain⟨p0,p1,p2,p3,p4,p5⟩:=P3.out.six;have pl:=P3.out.lt)
             |(go_at_call 77;(with_reducible refine(h2c _ _ _ _).mono ?_);rintro e w6 ⟨rfl,hb⟩;have T4:=Lib.hid (T3.out.below hb);clear hb;clear c0 c1 c2 c3 c4 c5 c6 c7 c8 c9 c10 r0 r1 rf l1 l2;obtain⟨⟨c0,c1,c2,c3,c4,c5,c6,c7,c8,c9,c10⟩,⟨r0,r1⟩,rf,l1,l2⟩:=T4.out.cells))
            have F:=T4.out.fin (.int .i64 5) (.int .i64 (3+(k:Int)));refine bodyPost_ret (results_cell_row rfl _ _ (w.heap.size+1) _ _ _ _ rfl F.1 Tryz.underlying45 rfl (by kernel_rfl)) rfl ?_;exact HPf.out HC.out 5 _ _ (by omega) F.2
           |false=>
            cases go with
            |true=>
             have HC:Hid (RES=false):=Lib.hid (by rw [HCK2.out,HS2.out,A2.out];rfl);go_wp2_with (first
              |(go_at_call 33;(with_reducible refine(hpc _).mono ?_);rintro e w4 ⟨rfl,hb⟩;have T2:=Lib.hid (T1.out.below hb);have P2:=Lib.hid (P1.out.below hb);clear hb)
              |(go_at_call 8;(with_reducible refine(hbt _).mono ?_);rintro e w5 ⟨rfl,hb⟩;have T3:=Lib.hid (T2.out.below hb);have P3:=Lib.hid (P2.out.below hb);clear hb p0 p1 p2 p3 p4 p5 pl;clear c0 c1 c2 c3 c4 c5 c6 c7 c8 c9 c10 r0 r1 rf l1 l2;obtain⟨⟨c0,c1,c2,c3,c4,c5,c6,c7,c8,c9,c10⟩,⟨r0,r1⟩,rf,l1,l2⟩:=T3.out.cells;obtain⟨p0,p1,p2,p3,p4,p5⟩:=P3.out.six;have pl:=P3.out.lt)
              |(go_at_call 77;(with_reducible refine(h2c _ _ _ _).mono ?_);rintro e w6 ⟨rfl,hb⟩;have T4:=Lib.hid (T3.out.below hb);clear hb;clear c0 c1 c2 c3 c4 c5 c6 c7 c8 c9 c10 r0 r1 rf l1 l2;obtain⟨⟨c0,c1,c2,c3,c4,c5,c6,c7,c8,c9,c10⟩,⟨r0,r1⟩,rf,l1,l2⟩:=T4.out.cells))
             have F:=T4.out.fin (.int .i64 5) (.int .i64 (3+(k:Int)));refine bodyPost_ret (results_cell_row rfl _ _ (w.heap.size+1) _ _ _ _ rfl F.1 Tryz.underlying45 rfl (by kernel_rfl)) rfl ?_;exact HPf.out HC.out 5 _ _ (by omega) F.2
            |false=>
             have A3:Hid (Z8 x.first.ser true x.sound=Z8 x.first.ser (k+1==0) (x.sound.drop (k+1))):=Lib.hid (by rw [HS2.out,A2.out];rfl);go_wp2_with (first
              |(go_at_call 33;(with_reducible refine(hpc _).mono ?_);rintro e w4 ⟨rfl,hb⟩;have T2:=Lib.hid (T1.out.below hb);have P2:=Lib.hid (P1.out.below hb);clear hb)
              |(go_at_call 8;(with_reducible refine(hbt _).mono ?_);rintro e w5 ⟨rfl,hb⟩;have T3:=Lib.hid (T2.out.below hb);have P3:=Lib.hid (P2.out.below hb);clear hb p0 p1 p2 p3 p4 p5 pl;clear c0 c1 c2 c3 c4 c5 c6 c7 c8 c9 c10 r0 r1 rf l1 l2;obtain⟨⟨c0,c1,c2,c3,c4,c5,c6,c7,c8,c9,c10⟩,⟨r0,r1⟩,rf,l1,l2⟩:=T3.out.cells;obtain⟨p0,p1,p2,p3,p4,p5⟩:=P3.out.six;have pl:=P3.out.lt)
              |(go_at_call 77;(with_reducible refine(h2c _ _ _ _).mono ?_);rintro e w6 ⟨rfl,hb⟩;have T4:=Lib.hid (T3.out.below hb);clear hb;clear c0 c1 c2 c3 c4 c5 c6 c7 c8 c9 c10 r0 r1 rf l1 l2))
             go_roundw
             case rel=>exact⟨k+1,by omega,by go_num,T4.out,A3.out⟩
             case measure=>simp [intOf];omega
         · have hse:((p.ser:Int)==(x.first.ser:Int))=false:=by rw [beq_eq_false_iff_ne];omega
           have hse2:((p.ser:Int) !=(x.first.ser:Int))=true:=by rw [bne,hse];rfl
           have HC:Hid (RES=false):=Lib.hid (by rw [HCK2.out,HS2.out,A1.out,show(p.ser==x.first.ser)=false by simpa using hsr];rfl);clear A1 hsr;go_wp2_with (first
            |(go_at_call 33;(with_reducible refine(hpc _).mono ?_);rintro e w4 ⟨rfl,hb⟩;have T2:=Lib.hid (T1.out.below hb);have P2:=Lib.hid (P1.out.below hb);clear hb)
            |(go_at_call 8;(with_reducible refine(hbt _).mono ?_);rintro e w5 ⟨rfl,hb⟩;have T3:=Lib.hid (T2.out.below hb);have P3:=Lib.hid (P2.out.below hb);clear hb p0 p1 p2 p3 p4 p5 pl;clear c0 c1 c2 c3 c4 c5 c6 c7 c8 c9 c10 r0 r1 rf l1 l2;obtain⟨⟨c0,c1,c2,c3,c4,c5,c6,c7,c8,c9,c10⟩,⟨r0,r1⟩,rf,l1,l2⟩:=T3.out.cells;obtain⟨p0,p1,p2,p3,p4,p5⟩:=P3.out.six;have pl:=P3.out.lt))
           have F:=T3.out.fin (.int .i64 5) (.int .i64 (3+(k:Int)));refine bodyPost_ret (results_cell_row rfl _ _ (w.heap.size+1) _ _ _ _ rfl F.1 Tryz.underlying45 rfl (by kernel_rfl)) rfl ?_;exact HPf.out HC.out 5 _ _ (by omega) F.2
       · have HC:Hid (RES=false):=Lib.hid (by rw [HCK2.out,HS2.out,HSO.out,show(((a,0):Nat×Nat)==(0,0))=false by rw [beq_eq_false_iff_ne];intro e;injection e with e1;exact ha e1];rfl);have hbf2:=fun w=>Za5 (a:Int) 0 (by omega) w;clear HSO;go_wp2_with (first
          |(go_at_call 33;(with_reducible refine(hpc _).mono ?_);rintro e w4 ⟨rfl,hb⟩;have T2:=Lib.hid (T1.out.below hb);have P2:=Lib.hid (P1.out.below hb);clear hb)
          |(go_at_call 8;(with_reducible refine(hbf2 _).mono ?_);rintro e w5 ⟨rfl,hb⟩;have T3:=Lib.hid (T2.out.below hb);clear hb;clear c0 c1 c2 c3 c4 c5 c6 c7 c8 c9 c10 r0 r1 rf l1 l2;obtain⟨⟨c0,c1,c2,c3,c4,c5,c6,c7,c8,c9,c10⟩,⟨r0,r1⟩,rf,l1,l2⟩:=T3.out.cells))
         have F:=T3.out.fin (.int .i64 5) (.int .i64 (3+(k:Int)));refine bodyPost_ret (results_cell_row rfl _ _ (w.heap.size+1) _ _ _ _ rfl F.1 Tryz.underlying45 rfl (by kernel_rfl)) rfl ?_;exact HPf.out HC.out 5 _ _ (by omega) F.2
     · obtain rfl:k=x.sound.length:=by omega
       have hs:=HS.out;rw [List.drop_length] at hs;have HC:Hid (RES=true):=Lib.hid (by rw [HCK2.out,hs];rfl);clear hs;go_wp2_with fail
       have F:=ST.out.fin (.int .i64 0) (.int .i64 0);refine bodyPost_ret (results_cell_row rfl _ _ (w.heap.size+1) _ _ _ _ rfl F.1 Tryz.underlying45 rfl (by kernel_rfl)) rfl ?_;exact HPt.out HC.out _ F.2
def lcs (ps:List (List UInt8)):List (List UInt8):=ps.map fun p=>Zu p.length
theorem ZoE {ps:List (List UInt8)} {k:Nat} {x:List UInt8} (h:ps[k]? =some x):lcs (ps.take (k+1))=lcs (ps.take k)++[Zu x.length]:=by
 obtain⟨hk,e⟩:=List.getElem?_eq_some_iff.1 h;subst e;unfold lcs;rw [List.take_succ_eq_append_getElem hk,List.map_append];rfl
theorem ZjO {x:List UInt8}:∀{ps:List (List UInt8)},x∈ps→x.length≤ps.flatten.length
 |[],h=>by cases h
 |y::ps,h=>by
  rw [List.flatten_cons,List.length_append];rcases List.mem_cons.1 h with e|h
  · subst e;omega
  · have:=ZjO h;omega
theorem ZjE:∀ps:List (List UInt8),(lcs ps).flatten.length≤ps.flatten.length+ps.length
 |[]=>Nat.le_refl _
 |y::ps=>by
  have:=ZjE ps;unfold lcs at this⊢;simp only [List.map_cons,List.flatten_cons,List.length_append,List.length_cons,ZjA] at this⊢;omega
def strN:Value→Nat
 | .string s=>s.size
 |_=>0
structure PpSt2 (w wr:World)(ser:Nat):Prop where
 hd:Bx wr w.heap.size #[.int .u8 0,.int .u64 0,.int .u32 (ser:Nat),.int .u32 1] 25
 low:Below w.heap.size w wr
theorem PpSt2.below {w wr wy:World} {ser:Nat} (h:PpSt2 w wr ser)(hb:Below wr.heap.size wr wy):PpSt2 w wy ser:=⟨h.hd.below hb,h.low.trans (hb.mono h.low.size)⟩
theorem PpSt2.low1 {w wr wy:World} {ser:Nat} (h:PpSt2 w wr ser)(hb:Below (w.heap.size+1) wr wy):PpSt2 w wy ser:=⟨h.hd.same6 hb (by omega),h.low.trans (hb.mono (by omega))⟩
theorem PpSt2.size {w wr:World} {ser:Nat} (h:PpSt2 w wr ser):w.heap.size+1≤wr.heap.size:=h.hd.lt
theorem PpSt2.cells {w wr:World} {ser:Nat} (h:PpSt2 w wr ser):wr.cell? ⟨w.heap.size,0,none⟩=some (.int .u8 0)∧wr.cell? ⟨w.heap.size,1,none⟩=some (.int .u64 0)∧wr.cell? ⟨w.heap.size,2,none⟩=some (.int .u32 (ser:Nat))∧wr.cell? ⟨w.heap.size,3,none⟩=some (.int .u32 1)∧w.heap.size<wr.heap.size:=
 ⟨h.hd.cell 0,h.hd.cell 1,h.hd.cell 2,h.hd.cell 3,h.hd.lt⟩
def P1Rel (w:World)(ser:Nat)(ps:List (List UInt8))(v i:Value)(wr:World):Prop:=∃k:Nat,k≤ps.length∧i= .int .i64 k∧PpSt2 w wr ser∧ZY (w.heap.size+1) wr v (lcs (ps.take k))
def ZbX (ser:Nat):Pg:=⟨0,0,ser,1,[],[]⟩
def P2Rel (w:World)(ser:Nat)(all:List Pg)(v8 v9 v10 v11:Value)(wr:World):Prop:=∃(fuel k:Nat) (op:Bool) (la bo:List UInt8) (L:List Pg),v8= .string (B la)∧v9= .string (B bo)∧v11= .bool op∧L.length=k∧PpSt2 w wr ser∧
 wr.ownsRow (w.heap.size+1) 27 6 v10 L.length (L.flatMap pgL)∧(L=[]→v10= .slice none 0 0)∧la.length≤fuel∧k+la.length≤10000000∧bo.length=Zc la∧la.length≤10000000∧all=L++Zy (ZbX ser) fuel k op la bo
theorem Zpt (h:Pg)(fuel k:Nat)(op:Bool)(la bo:List UInt8)(e:la≠[]):Zy h (fuel+1) k op la bo=
 ⟨if op then 1 else h.fl&&& ~~~1,if(la.take 255).any (· !=255) then h.pos else 18446744073709551615,h.ser,(h.num+k) % 4294967296,la.take 255,bo.take (Zc (la.take 255))⟩::
  Zy h fuel (k+1) ((la.take 255).getLast? ==some 255) (la.drop 255) (bo.drop (Zc (la.take 255))):=by
 rw [Zy,if_neg e]
theorem Zdj {w:World} {base g:Nat} {e:TypeId} {m n:Nat} {xs:List Value} {v:Value} (h:w.ownsRow base e m v n xs)(hn:v.ownBlock≠some g)(j:Nat)(u:Value):(w.setCell ⟨g,j,none⟩ u).ownsRow base e m v n xs:=
 World.ownsRow.kept (row:=some g) h (by
  have hb:But g w.heap.size w (w.setCell ⟨g,j,none⟩ u):=(But.refl _ _ _).setCell (p:=⟨g,j,none⟩) (.inr rfl) u;exact⟨hb.os,hb.tape,hb.output,hb.size,fun k hk hc=>hb.block k hk (fun e=>hc (by rw [e]))⟩) (.inr hn)
def Zen (w:World)(L:List Pg)(e:Ending)(w':World):Prop:=∃v,e= .returned v∧Zg pgL w.heap.size w' v L∧Below w.heap.size w w'
theorem Zmp (ser:Nat)(hser:ser<4294967296)(bk:Nat)(ps:List (List UInt8))(h0:ps≠[])(hn:ps.length≤1000)(hl:ps.flatten.length≤1000000)(w:World)(hbk:bk<w.heap.size)(hc:∀(j:Nat) x,ps[j]? =some x→w.cell? ⟨bk,j,none⟩=some (.string (B x))):
 Calls Tryz.prog 32 #[.agg #[.int .u8 0,.int .u64 0,.int .u32 (ser:Nat),.int .u32 1],.slice (some ⟨bk,0,none⟩) ps.length ps.length] w (Zen w (Zy (ZbX ser) (lcs ps).flatten.length 0 false (lcs ps).flatten ps.flatten)):=by
 obtain⟨i0,hi,iz0,iz1,iz2⟩:=info_parts Zd0;have hx1:∀x∈ps,x.length≤1000000:=fun x hx=>Nat.le_trans (ZjO hx) hl;have hlc:(lcs ps).flatten.length≤1001000:=by have:=ZjE ps;omega
 have htot:ps.flatten.length=Zc (lcs ps).flatten:=(Zfp ps).symm;have hj1:∀wx v,ZY (w.heap.size+1) wx v (lcs ps)→Calls Tryz.prog 19 #[v] wx fun e w'=>e= .returned (.string (B (lcs ps).flatten))∧Below wx.heap.size wx w':=fun wx v h=>Zel h (by omega) (by unfold lcs;rw [List.length_map];omega);have hj2:∀wx,Below w.heap.size w wx→Calls Tryz.prog 19 #[.slice (some ⟨bk,0,none⟩) ps.length ps.length] wx fun e w'=>e= .returned (.string (B ps.flatten))∧Below wx.heap.size wx w':=fun wx hb=>Zek bk ps.length ps wx (fun j x hx=>(hb.cell (p:=⟨bk,j,none⟩) hbk).trans (hc j x hx)) h0 (Nat.le_refl _) (by omega) (by omega);generalize hP:Zen w (Zy (ZbX ser) (lcs ps).flatten.length 0 false (lcs ps).flatten ps.flatten)=P;obtain⟨all,hall⟩:∃q,q=Zy (ZbX ser) (lcs ps).flatten.length 0 false (lcs ps).flatten ps.flatten:=⟨_,rfl⟩
 have HP:Hid (∀v w',Zg pgL w.heap.size w' v all→Below w.heap.size w w'→P (.returned v) w'):=Lib.hid fun v w' h1 h2=>by rw [←hP];exact⟨v,rfl,by rw [←hall];exact h1,h2⟩
 have ST0:Hid (PpSt2 w (w.alloc (.cells #[.int .u8 0,.int .u64 0,.int .u32 (ser:Nat),.int .u32 1] 25)) ser):=Lib.hid ⟨Bx.new w _ _,(Below.refl _ _).alloc (Nat.le_refl _) _⟩;have HC:=Lib.hid hc;have HX:=Lib.hid hx1;have HALL:=Lib.hid hall;clear hP hc hx1 hall;go_enter Tryz.func32,Tryz.ntmps32
 go_wp2_with (at_make;refine wpList_make_own _ rfl _ _ 78 rfl (w.heap.size+1) 9 i0 (.string ⟨#[]⟩) 1 Tryz.underlying78 hi iz0 iz1 .i64 .i64 _ ps.length rfl rfl rfl (by rw [iz2];omega) (by unfold maxLen;omega) (by have:=ST0.out.size;omega) ?_;intro w1 hown1 hg1)
 have ST1:=Lib.hid (ST0.out.below ((Below.refl _ _).grown hg1 (Nat.le_refl _) (fun k h=>by cases h)));have OW1:Hid (ZY (w.heap.size+1) w1 (.slice (some ⟨(w.alloc (.cells #[.int .u8 0,.int .u64 0,.int .u32 (ser:Nat),.int .u32 1] 25)).heap.size,0,none⟩) 0 ps.length) []):=Lib.hid hown1;rw [World.size_alloc] at OW1;clear hown1 hg1 ST0;go_loopw [5,20] (fun v i wr=>P1Rel w ser ps v i wr) (fun _ i _=>ps.length - (intOf i).toNat)
 case atStart=>exact⟨0,Nat.zero_le _,rfl,ST1.out,OW1.out⟩
 case round=>
  obtain⟨k,hk,rfl,hst,how⟩:=hrel;have ST:=Lib.hid hst;have OW:=Lib.hid how;clear hst how;obtain⟨A5,c5,hv5,hc5⟩:=OW.out.len;subst hv5;have hll:(lcs (ps.take k)).length≤16777216:=by unfold lcs;rw [List.length_map,List.length_take];omega
  by_cases hlt:k<ps.length
  · obtain⟨x,hk1⟩:∃x,ps[k]? =some x:=⟨_,List.getElem?_eq_getElem hlt⟩
    have hx:=HX.out x (List.mem_of_getElem? hk1);have y0:wr.cell? ⟨bk,k,none⟩=some (.string (B x)):=(ST.out.low.cell (p:=⟨bk,k,none⟩) hbk).trans (HC.out k x hk1);have hbl:bk<wr.heap.size:=Nat.lt_of_lt_of_le hbk ST.out.low.size;have hlace:=fun w=>Zmo x.length (by omega) w;have hsx:=Zm x;have HT:=Lib.hid (ZoE hk1);have hkk2:((k:Int)).toNat=k:=by omega
    clear hk1;generalize Zu x.length=LX at*;generalize lcs (ps.take k)=LL at*;go_wp2_with (first
     |(go_at_call 79;refine(hlace _).mono ?_;rintro e w2 ⟨rfl,hb2⟩;have S2:=Lib.hid (ST.out.below hb2);have O2:=Lib.hid (OW.out.below hb2);have hz2:=S2.out.size;clear hb2)
     |(at_builtin;refine ZdE rfl _ _ rfl (w.heap.size+1) (.slice A5 LL.length c5) LL rfl w2 LX O2.out hz2 hll rfl ?_;intro v6 w6 HO6 hb6 hg6 hf6;have S6:=Lib.hid (S2.out.low1 hb6);clear hb6 hg6 hf6))
    go_roundw
    case rel=>exact⟨k+1,by omega,by go_num,S6.out,by rw [HT.out];exact HO6.out⟩
    case measure=>simp [intOf];omega
  · obtain rfl:k=ps.length:=by omega
    have hj1':=fun wx v h=>hj1 wx v h;rw [List.take_length] at*;clear hj1;have hsl:=Zm (lcs ps).flatten;have hsb:=Zm ps.flatten;generalize (lcs ps).flatten=la0 at*;generalize ps.flatten=bo0 at*;go_wp2_with (first
     |(go_at_call 19;refine(hj1' _ _ OW.out).mono ?_;rintro e w2 ⟨rfl,hb2⟩;have S2:=Lib.hid (ST.out.below hb2);clear hb2)
     |(go_at_call 19;refine(hj2 _ S2.out.low).mono ?_;rintro e w3 ⟨rfl,hb3⟩;have S3:=Lib.hid (S2.out.below hb3);clear hb3))
    clear hj1' hj2 hsl hsb OW ST;go_loopw [8,9,10,11] (fun v8 v9 v10 v11 wr=>P2Rel w ser all v8 v9 v10 v11 wr) (fun v8 _ _ _ _=>strN v8)
    case atStart=>exact⟨la0.length,0,false,la0,bo0,[],rfl,rfl,rfl,rfl,S3.out,⟨rfl,.inl ⟨rfl,rfl⟩⟩,fun _=>rfl,Nat.le_refl _,by omega,htot,by omega,by rw [HALL.out];rfl⟩
    case round=>
     obtain⟨fuel,k,op,la,bo,L,rfl,rfl,rfl,rfl,hst,how,hnil,hfu,hkl,hbt,hl7,hal⟩:=hrel;have ST:=Lib.hid hst;have OW:=Lib.hid how;have HN:=Lib.hid hnil;have HA:=Lib.hid hal;clear hst how hnil hal;obtain⟨_,A10,c10,hv10,hc10⟩:=ZbF OW.out;subst hv10;have hsl:=Zm la;have hsb:=Zm bo;by_cases hne:la=[]
     · have HAL:Hid (all=L):=Lib.hid (by rw [HA.out,hne];cases fuel<;>simp [Zy]);have hlz:la.length=0:=by rw [hne];rfl
       have hd:decide (0<(la.length:Int))=false:=decide_eq_false (by omega);have hd':¬0<(la.length:Int):=by omega
       clear HA;go_wp2_with fail
       exact HP.out _ _ (by rw [HAL.out];exact(Zg.of_own (f:=pgL) rfl OW.out HN.out).low (Nat.le_succ _)) ST.out.low
     · have hpos:0<la.length:=List.length_pos_iff.mpr hne;obtain⟨fu,rfl⟩:∃m,fuel=m+1:=⟨fuel - 1,by omega⟩
       have hal:=HA.out;rw [Zpt _ _ _ _ _ _ hne] at hal;obtain⟨N,hN⟩:∃N,N=min la.length 255:=⟨_,rfl⟩
       have htk:la.take N=la.take 255:=by
        rw [hN];by_cases h:la.length≤255
        · rw [Nat.min_eq_left h,List.take_length,List.take_of_length_le h]
        · rw [Nat.min_eq_right (by omega)]
       have hdk:la.drop N=la.drop 255:=by
        rw [hN];by_cases h:la.length≤255
        · rw [Nat.min_eq_left h,List.drop_length,List.drop_of_length_le h]
        · rw [Nat.min_eq_right (by omega)]
       have hsplit:la.take 255++la.drop 255=la:=List.take_append_drop 255 la;have htt:Zc la=Zc (la.take 255)+Zc (la.drop 255):=by rw [←ZcT,hsplit]
       have hmin:min (la.length:Int) 255=(N:Int):=by omega
       have hminN:min la.length 255=N:=hN.symm;have hN2:N≤la.length:=by omega
       have hx1:(B la).extract 0 N=B (la.take 255):=by rw [Zbx,List.drop_zero,Nat.sub_zero,htk]
       have hx2:(B bo).extract 0 (Zc (la.take 255))=B (bo.take (Zc (la.take 255))):=by rw [Zbx,List.drop_zero,Nat.sub_zero]
       have hx3:(B la).extract N la.length=B (la.drop 255):=by rw [Zbx,hdk,List.take_of_length_le];rw [←hdk,List.length_drop];omega
       have hx4:(B bo).extract (Zc (la.take 255)) bo.length=B (bo.drop (Zc (la.take 255))):=by rw [Zbx,List.take_of_length_le];rw [List.length_drop];omega
       have hx4b:=hx4;rw [show bo.length=Zc (la.take 255)+Zc (la.drop 255) by omega] at hx4b;have htl:=List.length_take (i:=255) (l:=la);have hdl:=List.length_drop (i:=255) (l:=la);have hct:=fun w=>Zmm (la.take 255) (by omega) w;have hen:=fun w=>Zmn (la.take 255) (by omega) w;have hbd:=bo.length_drop (i:=Zc (la.take 255));have hd:decide (0<(la.length:Int))=true:=decide_eq_true (by omega);obtain⟨c0,c1,c2,c3,cl⟩:=ST.out.cells;obtain⟨NUM,hNUM⟩:∃q,q=1+L.length:=⟨_,rfl⟩
       have hnum:((ZbX ser).num+L.length) % 4294967296=NUM:=by rw [hNUM];exact Nat.mod_eq_of_lt (by show 1+L.length<_;omega)
       have h01:(ZbX ser).fl&&& ~~~1=0:=by show(0:UInt8)&&& ~~~1=0;decide
       have hw1:IntKind.u32.wrap (L.length:Int)=(L.length:Int):=by rw [IntKind.wrap_u32];omega
       have hw2:IntKind.u32.wrap (1+(L.length:Int))=(NUM:Int):=by rw [IntKind.wrap_u32];omega
       have hlL:L.length≤16777216:=by omega
       have hNU:NUM<4294967296:=by omega
       rw [hnum,h01,show(ZbX ser).pos=0 from rfl,show(ZbX ser).ser=ser from rfl] at hal;have hand:bits .andNot .u8 0 1=0:=by decide
       have hbtl:(bo.take (Zc (la.take 255))).length≤1000000000:=Nat.le_trans (List.length_take_le _ _) (by have:=ZbL (la.take 255);omega);have hopn:=fun fl pos hpo w=>Zme ⟨fl,pos,ser,NUM,la.take 255,bo.take (Zc (la.take 255))⟩ ⟨hpo,hser,hNU,by show(la.take 255).length≤_;omega,hbtl⟩ w;unfold pgA at hopn;simp only at hopn;change all=L++(⟨_,_,_,_,_,_⟩::Zy (ZbX ser) fu (L.length+1) (Zdg (la.take 255)) _ _) at hal
       have HAL:=Lib.hid hal;have HBT:Hid ((bo.drop (Zc (la.take 255))).length=Zc (la.drop 255)):=Lib.hid (by rw [List.length_drop];omega);clear hal HA htk hdk hsplit hN hNUM;generalize la.take 255=ls at*;generalize la.drop 255=la2 at*;generalize hT:Zc ls=T at*;generalize bo.take T=bo1 at*;generalize bo.drop T=bo2 at*;have hsls:=Zm ls;obtain⟨any,hany⟩:∃q,q=ls.any (· !=255):=⟨_,rfl⟩
       rw [←hany] at HAL hen;clear hany;go_upto_region 13 with fail
       go_region
       have PB:Hid (Bx (wr.alloc (.cells #[.int .u8 0,.int .u64 0,.int .u32 (ser:Nat),.int .u32 1,.string (B ls),.string ⟨#[]⟩] 27)).drew wr.heap.size #[.int .u8 0,.int .u64 0,.int .u32 (ser:Nat),.int .u32 1,.string (B ls),.string ⟨#[]⟩] 27):=Lib.hid (Bx.new wr _ _);have HBe:Below wr.heap.size wr (wr.alloc (.cells #[.int .u8 0,.int .u64 0,.int .u32 (ser:Nat),.int .u32 1,.string (B ls),.string ⟨#[]⟩] 27)).drew:=(below_drewN ((Below.refl _ wr).alloc (Nat.le_refl _) (.cells #[.int .u8 0,.int .u64 0,.int .u32 (ser:Nat),.int .u32 1,.string (B ls),.string ⟨#[]⟩] 27)) 1)
       have S1:=Lib.hid (ST.out.below HBe);have O1:=Lib.hid (Zo OW.out HBe);have NE:=Lib.hid (Zdi OW.out);clear HBe c0 c1 c2 c3 cl;obtain⟨c0,c1,c2,c3,cl⟩:=S1.out.cells;generalize (wr.alloc (.cells #[.int .u8 0,.int .u64 0,.int .u32 (ser:Nat),.int .u32 1,.string (B ls),.string ⟨#[]⟩] 27)).drew=W1 at*;have hG:w.heap.size+1≤wr.heap.size:=ST.out.size;generalize wr.heap.size=G at*;obtain⟨p0,p1,p2,p3,p4,p5⟩:=PB.out.six;have pf:=PB.out.free;have pl:=PB.out.lt;go_upto_region 16 with(go_at_call 80;refine(hct _).mono ?_;rintro e w2 ⟨rfl,rfl⟩)
       have PB2:=Lib.hid (PB.out.put 5 (.string (B bo1)));have S2:=Lib.hid (PpSt2.mk (S1.out.hd.set (k:=G) (by omega) 5 (.string (B bo1))) (S1.out.low.setCell (p:=⟨G,5,none⟩) (by show w.heap.size≤G;omega) (.string (B bo1))));have O2:=Lib.hid (Zdj O1.out NE.out 5 (.string (B bo1)));clear S1 O1 PB p0 p1 p2 p3 p4 p5 pf pl c0 c1 c2 c3 cl;generalize W1.setCell ⟨G,5,none⟩ (.string (B bo1))=W2 at*;obtain⟨c0,c1,c2,c3,cl⟩:=S2.out.cells;obtain⟨p0,p1,p2,p3,p4,p5⟩:=PB2.out.six;have pf:=PB2.out.free;have pl:=PB2.out.lt;go_region
       have HB3:Below W2.heap.size W2 W2.drew:=below_drewN (Below.refl W2.heap.size W2) 1;have PB3:=Lib.hid (PB2.out.below HB3);have S3:=Lib.hid (S2.out.below HB3);have O3:=Lib.hid (Zo O2.out HB3);clear HB3 PB2 S2 O2 p0 p1 p2 p3 p4 p5 pf pl c0 c1 c2 c3 cl;generalize W2.drew=W3 at*;obtain⟨c0,c1,c2,c3,cl⟩:=S3.out.cells;obtain⟨p0,p1,p2,p3,p4,p5⟩:=PB3.out.six;have pf:=PB3.out.free;have pl:=PB3.out.lt
       go_upto_if 67 with fail
       have PB4:=Lib.hid (PB3.out.put 3 (.int .u32 (NUM:Nat)));have S4:=Lib.hid (PpSt2.mk (S3.out.hd.set (k:=G) (by omega) 3 (.int .u32 (NUM:Nat))) (S3.out.low.setCell (p:=⟨G,3,none⟩) (by show w.heap.size≤G;omega) (.int .u32 (NUM:Nat))));have O4:=Lib.hid (Zdj O3.out NE.out 3 (.int .u32 (NUM:Nat)));clear S3 O3 PB3 p0 p1 p2 p3 p4 p5 pf pl c0 c1 c2 c3 cl;generalize W3.setCell ⟨G,3,none⟩ (.int .u32 (NUM:Nat))=W4 at*;obtain⟨c0,c1,c2,c3,cl⟩:=S4.out.cells;obtain⟨p0,p1,p2,p3,p4,p5⟩:=PB4.out.six;have pf:=PB4.out.free;have pl:=PB4.out.lt;generalize hfl:(if op=true then(1:UInt8) else 0)=fl at*;generalize hps:(if any=true then(0:Nat) else 18446744073709551615)=pos at*;have hpo:pos<18446744073709551616:=by rw [←hps];split<;>omega
       have hopn2:=hopn fl pos hpo;have HFL:=Lib.hid hfl;have HPS:=Lib.hid hps;clear hopn hpo hfl hps;go_cut [] (fun wx=>Bx wx G #[.int .u8 fl.toNat,.int .u64 0,.int .u32 (ser:Nat),.int .u32 (NUM:Nat),.string (B ls),.string (B bo1)] 27∧PpSt2 w wx ser∧wx.ownsRow (w.heap.size+1) 27 6 (.slice A10 L.length c10) L.length (L.flatMap pgL))
       case first=>
        cases op with
        |false=>
         have hf:fl=0:=HFL.out.symm;subst hf;go_wp2_with fail
         go_meet
         exact⟨PB4.out.put 0 (.int .u8 0),PpSt2.mk (S4.out.hd.set (k:=G) (by omega) 0 (.int .u8 0)) (S4.out.low.setCell (p:=⟨G,0,none⟩) (by show w.heap.size≤G;omega) (.int .u8 0)),Zdj O4.out NE.out 0 (.int .u8 0)⟩
        |true=>
         have hf:fl=1:=HFL.out.symm;subst hf;go_wp2_with fail
         go_meet
         exact⟨PB4.out.put 0 (.int .u8 1),PpSt2.mk (S4.out.hd.set (k:=G) (by omega) 0 (.int .u8 1)) (S4.out.low.setCell (p:=⟨G,0,none⟩) (by show w.heap.size≤G;omega) (.int .u8 1)),Zdj O4.out NE.out 0 (.int .u8 1)⟩
       have PB5:=Lib.hid hcut.1;have S5:=Lib.hid hcut.2.1;have O5:=Lib.hid hcut.2.2;clear hcut S4 O4 PB4 p0 p1 p2 p3 p4 p5 pf pl c0 c1 c2 c3 cl;obtain⟨c0,c1,c2,c3,cl⟩:=S5.out.cells;obtain⟨p0,p1,p2,p3,p4,p5⟩:=PB5.out.six;have pf:=PB5.out.free;have pl:=PB5.out.lt
       go_upto_if 78 with(go_at_call 81;refine(hen _).mono ?_;rintro e w2 ⟨rfl,rfl⟩)
       go_cut [] (fun wx=>Bx wx G #[.int .u8 fl.toNat,.int .u64 (pos:Nat),.int .u32 (ser:Nat),.int .u32 (NUM:Nat),.string (B ls),.string (B bo1)] 27∧PpSt2 w wx ser∧wx.ownsRow (w.heap.size+1) 27 6 (.slice A10 L.length c10) L.length (L.flatMap pgL))
       case first=>
        cases any with
        |true=>
         have hf:pos=0:=HPS.out.symm;subst hf;go_wp2_with fail
         go_meet
         exact⟨PB5.out,S5.out,O5.out⟩
        |false=>
         have hf:pos=18446744073709551615:=HPS.out.symm;subst hf;go_wp2_with fail
         go_meet
         exact⟨PB5.out.put 1 (.int .u64 18446744073709551615),PpSt2.mk (S5.out.hd.set (k:=G) (by omega) 1 (.int .u64 18446744073709551615)) (S5.out.low.setCell (p:=⟨G,1,none⟩) (by show w.heap.size≤G;omega) (.int .u64 18446744073709551615)),Zdj O5.out NE.out 1 (.int .u64 18446744073709551615)⟩
       have PB6:=Lib.hid hcut.1;have S6:=Lib.hid hcut.2.1;have O6:=Lib.hid hcut.2.2;clear hcut S5 O5 PB5 p0 p1 p2 p3 p4 p5 pf pl c0 c1 c2 c3 cl;obtain⟨p0,p1,p2,p3,p4,p5⟩:=PB6.out.six;have pl:=PB6.out.lt;generalize Zdg ls=op2 at*;go_wp2_with (first
        |(go_at_call 82;refine(hopn2 _).mono ?_;rintro e w7 ⟨rfl,hb7⟩;have PB7:=Lib.hid (PB6.out.below hb7);have S7:=Lib.hid (S6.out.below hb7);have O7:=Lib.hid (Zo O6.out hb7);have hz7:=S7.out.size;clear hb7 p0 p1 p2 p3 p4 p5 pl;obtain⟨p0,p1,p2,p3,p4,p5⟩:=PB7.out.six;have pl:=PB7.out.lt)
        |(at_builtin;refine ZfZ rfl _ _ rfl (w.heap.size+1) (.slice A10 L.length c10) L rfl w7 ⟨fl,pos,ser,NUM,ls,bo1⟩ _ rfl O7.out hz7 hlL rfl ?_;intro v8 w8 HO8 hb8 hg8 hf8;have S8:=Lib.hid (S7.out.low1 hb8);have O8:=Lib.hid HO8.out;clear hb8 hg8 hf8 HO8))
       clear p0 p1 p2 p3 p4 p5 pl;go_roundw
       case rel=>exact⟨fu,L.length+1,op2,la2,bo2,L++[⟨fl,pos,ser,NUM,ls,bo1⟩],rfl,rfl,rfl,by rw [List.length_append];rfl,S8.out,O8.out,fun e=>absurd e (by simp),by omega,by omega,HBT.out,by omega,by rw [HAL.out];simp⟩
       case measure=>
        show(B la2).size<(B la).size
        rw [Zm,Zm];omega
end Go.Proofs.YtnbkfkbcpfkddaaGreatDoor
