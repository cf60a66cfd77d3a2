/- Lemmas for a statement on the tops; conditions: as each says. -/
import Derived.Test.YtlfinljfghhpdaaGreatDoorM31
set_option linter.unusedVariables false
set_option linter.unusedSimpArgs false
set_option maxRecDepth 100000
set_option maxHeartbeats 4000000
namespace Go.Proofs.YtlfinljfghhpdaaGreatDoor
open Go Go.RowKit
def ZhX:List UInt8:=[116,101,120,116]
def ZS:Nat→List UInt8→List Pc×List UInt8
 |0,r=>([],r)
 |f+1,r=>if Zx r=0 then([],r) else(mk (r.take (Zx r))::(ZS f (r.drop (Zx r))).1,(ZS f (r.drop (Zx r))).2)
def ZdH (r:List UInt8):List Pc:=if r=[] then [] else [(false,ZhX,r)]
def Z4 (s:List UInt8):Option (List Pc):=
 if s=[] then some [] else if(ZS s.length s).1=[] then Za3 s else some ((ZS s.length s).1++ZdH (ZS s.length s).2)
theorem Znq (f:Nat)(r:List UInt8)(h:Zx r=0):ZS f r=([],r):=by
 cases f with
 |zero=>rfl
 |succ f=>simp [ZS,h]
def PsRel (t:List UInt8)(w0:World)(v rest n:Value)(wr:World):Prop:=∃(acc:List Pc) (rb:ByteArray) (f:Nat),rest= .string rb∧n= .int .i64 (Zx rb.data.toList)∧ZS t.length t=(acc++(ZS f rb.data.toList).1,(ZS f rb.data.toList).2)∧rb.size≤f∧acc.length+rb.size≤t.length∧wr.ownsRow w0.heap.size 167 3 v acc.length (acc.flatMap pcV)∧(acc=[]→v= .slice none 0 0)∧Below w0.heap.size w0 wr
theorem ZoS (s:ByteArray)(hs:s.size≤100000)(w:World):
 Calls Tryz.prog 242 #[.string s] w (ZdK Z4 s.data.toList w):=by
 generalize hP:ZdK Z4 s.data.toList w=P at*;have hlen:=ZaR s;obtain⟨i0,hi,iz0,iz1,iz2⟩:=info_parts Zmu;by_cases hne:s.size=0
 · have hE:s.data.toList=[]:=List.eq_nil_of_length_eq_zero (by omega);have hem:s.toList.isEmpty=true:=by rw [ByteArray.toList_eq,hE];rfl
   have Hr:=Lib.hid (show Z4 s.data.toList=some [] by rw [hE];rfl);clear hE hne hlen;go_enter Tryz.func242,Tryz.ntmps242
   go_wp2_with fail
   show P (.returned (.tuple #[.slice none 0 0,.bool true])) _
   rw [←hP];exact⟨_,by rw [Hr.out];rfl,by rw [Hr.out];exact .inl ⟨rfl,rfl⟩,Below.refl _ _⟩
 · have hem:s.toList.isEmpty=false:=by
    rw [ByteArray.toList_eq];generalize s.data.toList=l at*;cases l with
    |nil=>simp at hlen;omega
    |cons _ _=>rfl
   have hE:s.data.toList≠[]:=by intro e;rw [e] at hlen;simp at hlen;omega
   have hL:Z4 s.data.toList=if(ZS s.data.toList.length s.data.toList).1=[] then Za3 s.data.toList else some ((ZS s.data.toList.length s.data.toList).1++ZdH (ZS s.data.toList.length s.data.toList).2):=by
    unfold Z4;rw [if_neg hE]
   have HL:=Lib.hid hL;have hmo:=fun(b:ByteArray) (hb:b.size≤100000) w=>Zst b hb w;clear hL hE hne;go_enter Tryz.func242,Tryz.ntmps242
   go_wp2_with (go_at_call 313;refine(hmo s hs _).mono ?_;rintro e w1 ⟨rfl,hb1⟩)
   go_loopw [4,5,6] (fun v rest n wr=>PsRel s.data.toList w v rest n wr) (fun _ rest _ _=>match rest with| .string b=>b.size|_=>0)
   case atStart=>exact⟨[],s,s.data.toList.length,rfl,rfl,by simp,by omega,by simp,⟨rfl,.inl ⟨rfl,rfl⟩⟩,fun _=>rfl,hb1⟩
   case round=>
    obtain⟨acc,rb,f,rfl,rfl,htf,hf,ha,hown,h0,hb⟩:=hrel;rw [hlen] at ha;have hlr:=ZaR rb;have hrng:=Znp rb.data.toList;rw [hlr] at hrng;by_cases hz:Zx rb.data.toList=0
    · have htf2:=htf;rw [Znq f _ hz,List.append_nil] at htf2;have Htf:=Lib.hid htf2;rw [hz];clear htf htf2 hz hrng;by_cases hacc:acc=[]
      · have hv:=h0 hacc;have Hres:=Lib.hid (show Z4 s.data.toList=Za3 s.data.toList by rw [HL.out,Htf.out,if_pos hacc]);have hno:=fun w=>Zsz s hs w;unfold ZdK at hno;subst hv;clear HL Htf h0 hown hacc hmo;go_wp2_with (go_at_call 314;refine(hno _).mono ?_;rintro e w2 ⟨v,rfl,hv,hb2⟩)
        show P (.returned (.tuple #[v,.bool (Za3 s.data.toList).isSome])) _
        rw [←hP];exact⟨v,by rw [Hres.out],by rw [Hres.out];exact hv,hb.trans (hb2.mono hb.size)⟩
      · have hln:0<acc.length:=List.length_pos_iff.2 hacc;have Hres:=Lib.hid (show Z4 s.data.toList=some (acc++ZdH rb.data.toList) by rw [HL.out,Htf.out,if_neg hacc]);obtain⟨A,c,rfl,hc,hrd⟩:=Reads.of_own hown;have hl0:((acc.length:Int)==0)=false:=by rw [beq_eq_false_iff_ne];omega
        by_cases hrb:rb.size=0
        · have hre:rb.data.toList=[]:=List.eq_nil_of_length_eq_zero (by omega);have hem2:rb.toList.isEmpty=true:=by rw [ByteArray.toList_eq,hre];rfl
          have Hown:=Lib.hid hown;have Hre:=Lib.hid hre;clear HL Htf h0 hown hmo hre hrd;go_wp2_with fail
          show P (.returned (.tuple #[.slice A acc.length c,.bool true])) _
          rw [←hP];refine⟨_,by rw [Hres.out];rfl,?_,hb⟩;rw [Hres.out,Hre.out];simp only [ZdH,if_true,List.append_nil,Option.getD_some];exact ZB.of_own rfl Hown.out (fun e=>absurd e hacc)
        · have hem2:rb.toList.isEmpty=false:=by
           rw [ByteArray.toList_eq];generalize rb.data.toList=l at*;cases l with
           |nil=>simp at hlr;omega
           |cons _ _=>rfl
          have hre:rb.data.toList≠[]:=by intro e;rw [e] at hlr;simp at hlr;omega
          have Hown:=Lib.hid hown;have Hre:=Lib.hid hre;have hz1:=hb.size;clear HL Htf h0 hmo hre hrd hrb;go_wp2_with (first|(go_at_call 199;refine(Zen _ _ _).mono ?_;rintro e w2 ⟨rfl,hb2⟩;have hz2:=hb2.size;have hown2:=Zt Hown.out hb2;have hB2:=hb.trans (hb2.mono hz1))|(at_builtin;refine wpList_append_own _ rfl _ _ 72 rfl w.heap.size 167 i0 _ 3 40 Tryz.underlying72 hi iz0 iz1 iz2 rfl (by decide) _ _ _ rfl (hown2.alloc _) ⟨w2.heap.size,0,none⟩ 1 1 [.bool false,.string ⟨#[116,101,120,116]⟩,.string rb] rfl rfl ?d1 ?d2 ?d3 ?d4 ?d5 ?_))
          case d1=>exact Zcn w2 _ _ _ _
          case d2=>intro u hu;simp only [List.mem_cons,List.not_mem_nil,or_false] at hu;rcases hu with rfl|rfl|rfl<;>rfl
          case d3=>unfold maxLen;omega
          case d4=>omega
          case d5=>simp;omega
          intro v3 w3 hown3 hg3 h03;have hB3:=Z3 (hB2.alloc (by omega) _) (hown2.alloc _) hg3 (by simp;omega) (Nat.le_refl _);have Hown3:=Lib.hid hown3;clear hown3 h03 hown2 hg3;go_wp2_with fail
          show P (.returned (.tuple #[v3,.bool true])) _
          rw [←hP];refine⟨_,by rw [Hres.out];rfl,?_,hB3⟩;rw [Hres.out];have e:ZdH rb.data.toList=[(false,ZhX,rb.data.toList)]:=if_neg Hre.out;rw [e];refine ZB.of_own (base:=w.heap.size) (e:=167) (n:=acc.length+1) (by simp) ?_ (fun e=>by simp at e);have:=Hown3.out;simp only [List.flatMap_append,List.flatMap_cons,List.flatMap_nil,List.append_nil,Option.getD_some];rw [show pcV (false,ZhX,rb.data.toList)=[.bool false,.string ⟨#[116,101,120,116]⟩,.string rb] by unfold pcV;rw [←Zcr];rfl];exact this
    · obtain⟨f',rfl⟩:∃f',f=f'+1:=⟨f - 1,by omega⟩
      have htf2:ZS s.data.toList.length s.data.toList=((acc++[mk (rb.data.toList.take (Zx rb.data.toList))])++(ZS f' (rb.data.toList.drop (Zx rb.data.toList))).1,(ZS f' (rb.data.toList.drop (Zx rb.data.toList))).2):=by
       rw [htf,ZS,if_neg hz,List.append_assoc];rfl
      have hx1:=Zhl rb 0 (Zx rb.data.toList);rw [List.drop_zero,Nat.zero_add] at hx1;have hx2:(rb.extract (Zx rb.data.toList) rb.size).data.toList=rb.data.toList.drop (Zx rb.data.toList):=by
       rw [Zhk,List.take_of_length_le (by omega)]
      rw [←hx2] at htf2;have hmo2:=fun w=>hmo (rb.extract (Zx rb.data.toList) rb.size) (by simp;omega) w;rw [hx2] at hmo2;have HX2:=Lib.hid hx2;have hsz2:(rb.extract (Zx rb.data.toList) rb.size).size=rb.size - Zx rb.data.toList:=by simp
      have htk:(rb.data.toList.take (Zx rb.data.toList)).length≤100000:=by rw [List.length_take];omega
      have hne:Zx rb.data.toList≠0:=hz;have HT:=Lib.hid htf2;have HX:=Lib.hid hx1;clear htf htf2 hx1 hx2 hmo hz hlr;generalize Zx rb.data.toList=n at*;generalize rb.data.toList.take n=m at*;have hnn:7≤n∧n≤11∧n≤rb.size:=by omega
      obtain⟨n1,n2,n3⟩:=hnn;clear hrng hne;have hz1:=hb.size;have hmk:=ZcR wr.heap.size (rb.extract 0 n) (wr.alloc (.cells #[.string (rb.extract 0 n)] 9)) (Zc0 wr _ _) (by simp;omega);have hnw:=fun w'=>Zc0 w' (.string (rb.extract 0 n)) 9;go_wp2_with (first|(go_at_call 197;refine hmk.mono ?_;rintro e w2 ⟨rfl,hb2⟩;have hz2:=Zag hb2;have hown2:=Zt (hown.alloc _) hb2;have hB2:=(hb.alloc hz1 _).trans (hb2.mono (by simp;omega)))|(at_builtin;refine wpList_append_own _ rfl _ _ 72 rfl w.heap.size 167 i0 _ 3 40 Tryz.underlying72 hi iz0 iz1 iz2 rfl (by decide) _ _ _ rfl (hown2.alloc _) ⟨w2.heap.size,0,none⟩ 1 1 [.bool true,.string (B Zdv),.string (rb.extract 0 n)] rfl rfl ?d1 ?d2 ?d3 ?d4 ?d5 ?_))
      case d1=>exact Zcn w2 _ _ _ _
      case d2=>intro u hu;simp only [List.mem_cons,List.not_mem_nil,or_false] at hu;rcases hu with rfl|rfl|rfl<;>rfl
      case d3=>unfold maxLen;omega
      case d4=>omega
      case d5=>simp;omega
      intro v3 w3 hown3 hg3 h03;have hB3:=Z3 (hB2.alloc (by omega) _) (hown2.alloc _) hg3 (by simp;omega) (Nat.le_refl _);have hz3:=hB3.size;rw [HX.out] at hown3;have Hown3:=Lib.hid hown3;clear hown3 h03 hown2 hg3 hmk;go_wp2_with (go_at_call 313;refine(hmo2 _).mono ?_;rintro e w4 ⟨rfl,hb4⟩)
      go_roundw
      case rel=>
       refine⟨acc++[mk m],rb.extract n rb.size,f',rfl,by rw [HX2.out],HT.out,by omega,by simp;omega,?_,fun e=>by simp at e,hB3.trans (hb4.mono hB3.size)⟩;have:=Zt Hown3.out hb4;simp only [List.length_append,List.flatMap_append,List.length_cons,List.length_nil,List.flatMap_cons,List.flatMap_nil,List.append_nil,Nat.zero_add] at this⊢;exact this
      case measure=>simp;omega
theorem Zsm (f:Nat):∀r:List UInt8,(ZS f r).1.length+(ZS f r).2.length≤r.length:=by
 induction f with
 |zero=>intro r;simp [ZS]
 |succ f ih=>
  intro r;unfold ZS;by_cases h:Zx r=0
  · rw [if_pos h];simp
  · rw [if_neg h];have h1:=ih (r.drop (Zx r));have h2:=Znp r;rw [List.length_drop] at h1;simp only [List.length_cons];omega
theorem ZlG (s:List UInt8)(ps:List Pc)(h:Z4 s=some ps):ps.length≤4*s.length+4:=by
 unfold Z4 at h;split at h
 · simp only [Option.some.injEq] at h;subst h;simp
 · split at h
   · unfold Za3 at h;split at h
     · simp only [Option.some.injEq] at h;subst h;simp
     · cases h
   · simp only [Option.some.injEq] at h;subst h;have:=Zsm s.length s;rw [List.length_append];unfold ZdH;split<;>simp<;>omega
theorem ZoR (s:ByteArray)(hs:s.size≤100000)(w:World):
 Calls Tryz.prog 162 #[.string s] w (Zfi Z4 s.data.toList w):=by
 generalize hP:Zfi Z4 s.data.toList w=P at*;have hw:=fun w=>Zqi Z4 (fun _=>True) (fun _ _ _ _=>trivial) (fun s w h _=>by
  have:=ZoS (B s) (by rw [Zy];exact h) w;rw [ZQ] at this;exact this) ZlG s hs w trivial
 go_enter Tryz.func162,Tryz.ntmps162
 go_wp2_with (go_at_call 239;refine(hw _).mono ?_;rintro e w1 ⟨v,x,a,rfl,hr,hb1⟩;have hz1:=Zag hb1;obtain⟨c0,c1,f0,f1,hlt⟩:=Zbu (hb1.mono (by simp)))
 refine bodyPost_ret (v:= .tuple #[v,.agg #[.int .i64 x,.int .i64 a]]) (by simp [results,Tryz.results162,go_sem,c0,c1]) rfl ?_;rw [←hP];refine⟨v,x,a,rfl,?_,((Zf hb1).setCell (Nat.le_refl _) _).setCell (Nat.le_refl _) _⟩;exact((hr.set (p:=⟨w.heap.size,0,none⟩) (by simp) _).set (p:=⟨w.heap.size,1,none⟩) (by simp) _).more (by simp)
def Z7 (ps:List Pc):List UInt8:=(ps.map fun q:Pc=>q.2.2).flatten
theorem ZoI (a:Option Addr)(n c:Nat)(hn:n=0)(w:World):
 Calls Tryz.prog 88 #[.slice a n c] w fun e w'=>e= .returned (.string ⟨#[]⟩)∧w=w':=by
 subst hn;have hj:=Tryz.strings_Join_none a c ⟨#[]⟩;go_enter Tryz.func88,Tryz.ntmps88
 go_wp2_with (go_at_call 166;refine(hj _).mono ?_;rintro e w1 ⟨rfl,rfl⟩)
 go_ret
 exact⟨rfl,rfl⟩
theorem Zub:(Tryz.prog.info? 9).map (fun i=>(i.zero,i.size,i.bytes))=some (some (.string ⟨#[]⟩),1,16):=by kernel_rfl
def WhRel (ps:List Pc)(g:Nat)(w0:World)(i:Value)(wr:World):Prop:=∃(k:Nat) (xs:List Value),k≤ps.length∧i= .int .i64 k∧wr.ownsRow w0.heap.size 9 1 (.slice (some ⟨g,0,none⟩) ps.length ps.length) ps.length xs∧(∀j p,j<k→ps[j]? =some p→xs[j]? =some (.string (B p.2.2)))∧Below w0.heap.size w0 wr
theorem Zqj (v:Value)(ps:List Pc)(w:World)(hv:ZB pcV w v ps)(hn:ps.length≤1000000)(hl:(Z7 ps).length≤35184372089000):
 Calls Tryz.prog 94 #[v] w fun e w'=>e= .returned (.string (B (Z7 ps)))∧Below w.heap.size w w':=by
 obtain⟨i0,hi,iz0,iz1,iz2⟩:=info_parts Zub;have hvs:∃(A:Option Addr) (c:Nat),v= .slice A ps.length c∧ps.length≤c∧(0<ps.length→∃bk,A=some ⟨bk,0,none⟩∧bk<w.heap.size∧∀j u,(ps.flatMap pcV)[j]? =some u→w.cell? ⟨bk,j,none⟩=some u):=by
  rcases hv with⟨rfl,rfl⟩|⟨bk,c,h0,rfl,h2,h3,h4⟩
  · exact⟨none,0,rfl,by simp,fun h=>by simp at h⟩
  · exact⟨_,c,rfl,h2,fun _=>⟨bk,rfl,h3,h4⟩⟩
 obtain⟨A,c,rfl,hc,hA⟩:=hvs;have HA:=Lib.hid hA;clear hA hv;go_enter Tryz.func94,Tryz.ntmps94
 go_wp2_with (at_make;refine wpList_make_full _ rfl _ _ 29 rfl w.heap.size 9 i0 (.string ⟨#[]⟩) 1 Tryz.underlying29 hi iz0 iz1 .i64 .i64 ps.length ps.length ps.length rfl rfl rfl rfl (by rw [iz2];omega) (by unfold maxLen;omega) (Nat.le_refl _) ?_;intro w1 hown1 hg1)
 have hB1:Below w.heap.size w w1:=(Below.refl _ w).grown hg1 (Nat.le_refl _) (fun k h=>by cases h);go_loopw [11] (fun i wr=>WhRel ps w.heap.size w i wr) (fun i _=>ps.length - (intOf i).toNat)
 case atStart=>exact⟨0,_,by omega,rfl,hown1,fun j p h=>by omega,hB1⟩
 case round=>
  obtain⟨k,xs,hk,rfl,hown,hx,hb⟩:=hrel;have hz:=hb.size;by_cases hlt:k<ps.length
  · obtain⟨bk,rfl,hbk,hcl⟩:=HA.out (by omega);obtain⟨p,hp⟩:∃p,ps[k]? =some p:=⟨_,List.getElem?_eq_getElem hlt⟩
    have hcr:∀j u,(ps.flatMap pcV)[j]? =some u→wr.cell? ⟨bk,j,none⟩=some u:=fun j u hu=>(hb.cell (p:=⟨bk,j,none⟩) hbk).trans (hcl j u hu);obtain⟨c0,c1,c2⟩:=ZB.at_ ZeI hcr hp rfl;have hxl:xs.length=ps.length:=by simpa using hown.1
    have hgl:w.heap.size<wr.heap.size:=by
     rcases hown.2 with⟨h,_⟩|⟨g,cap,cur,h,_,hg,_⟩
     · simp at h
     · simp only [Value.slice.injEq,Option.some.injEq,Addr.mk.injEq,and_true,true_and] at h;obtain⟨rfl,_⟩:=h;exact(Array.getElem?_eq_some_iff.1 hg).1
    have ho2:=hown.alloc (.cells #[.bool p.1,.string (B p.2.1),.string (B p.2.2)] 167);have hfz0:=hown.frozenAt k;have hce0:wr.cell? ⟨w.heap.size,k,none⟩=some (xs[k]'(by omega)):=by
     rw [hown.cellAt k (by omega),List.getElem?_eq_getElem (by omega)]
    have hce:(wr.alloc (.cells #[.bool p.1,.string (B p.2.1),.string (B p.2.2)] 167)).cell? ⟨w.heap.size,k,none⟩=some (xs[k]'(by omega)):=by
     rw [ho2.cellAt k (by omega),List.getElem?_eq_getElem (by omega)]
    have hfz:=ho2.frozenAt k;have hst:=((hown.stored k (.string (B p.2.2))).1).alloc (.cells #[.bool p.1,.string (B p.2.1),.string (B p.2.2)] 167);have Hst:=Lib.hid hst;have Hx:=Lib.hid hx;clear hcl hcr hx hst ho2;go_wp2_with fail
    go_roundw
    case rel=>
     refine⟨k+1,xs.set k (.string (B p.2.2)),by omega,by go_num,Hst.out,?_,(hb.setCell (p:=⟨w.heap.size,k,none⟩) (Nat.le_refl _) _).alloc (by simp;omega) _⟩;intro j q hj hq;by_cases e:j=k
     · subst e;rw [hp] at hq;cases hq
       rw [List.getElem?_set_self (by omega)]
     · rw [List.getElem?_set_ne (by omega)];exact Hx.out j q (by omega) hq
    case measure=>simp [intOf];omega
  · have hk2:k=ps.length:=by omega
    subst hk2;by_cases h0:ps.length=0
    · have hps:ps=[]:=List.eq_nil_of_length_eq_zero h0;have Hr:=Lib.hid (show B (Z7 ps)=⟨#[]⟩ by rw [hps];rfl);have hj2:=fun w'=>ZoI (some ⟨w.heap.size,0,none⟩) ps.length ps.length h0 w';clear hlt hps h0;go_wp2_with (go_at_call 88;refine(hj2 _).mono ?_;rintro e w2 ⟨rfl,rfl⟩)
      go_ret
      rw [Hr.out];exact⟨rfl,hb⟩
    · have hj:=Zjv w.heap.size ps.length (ps.map fun q:Pc=>q.2.2) wr (fun j x hx2=>by
       rw [List.getElem?_map] at hx2;obtain⟨p,hp,rfl⟩:=Option.map_eq_some_iff.1 hx2;have hj:j<ps.length:=by
        by_cases h:j<ps.length
        · exact h
        · rw [List.getElem?_eq_none (by omega)] at hp;cases hp
       rw [hown.cellAt j (by omega)];exact hx j p hj hp) (by intro e;simp at e;exact h0 (by rw [e];rfl)) (by simp) hl (by simp;omega)
      rw [List.length_map] at hj;have Hown:=Lib.hid hown;clear hlt h0 hx hown;go_wp2_with (go_at_call 88;refine hj.mono ?_;rintro e w2 ⟨rfl,hb2⟩)
      go_ret
      exact⟨rfl,hb.trans (hb2.mono hz)⟩
theorem ZmP {v:Value} {ps:List Pc} {w:World} (hv:ZB pcV w v ps):∃(A:Option Addr) (c:Nat),v= .slice A ps.length c∧ps.length≤c∧(0<ps.length→∃bk,A=some ⟨bk,0,none⟩∧bk<w.heap.size∧∀j u,(ps.flatMap pcV)[j]? =some u→w.cell? ⟨bk,j,none⟩=some u):=by
 rcases hv with⟨rfl,rfl⟩|⟨bk,c,h0,rfl,h2,h3,h4⟩
 · exact⟨none,0,rfl,by simp,fun h=>by simp at h⟩
 · exact⟨_,c,rfl,h2,fun _=>⟨bk,rfl,h3,h4⟩⟩
theorem Zti:(Tryz.prog.info? 50).map (fun i=>(i.zero,i.size,i.bytes))=some (some (.agg #[.string ⟨#[]⟩,.string ⟨#[]⟩,.int .i64 0]),3,40):=by kernel_rfl
def RlRel (s:ByteArray)(w0:World)(v a i:Value)(wr:World):Prop:=∃(done:List Ln) (at_ q f:Nat),at_≤q∧q≤s.size∧a= .int .i64 at_∧i= .int .i64 q∧Zv s.data.toList=done++ZG f (s.data.toList.drop at_) at_∧s.size - at_≤f∧done.length≤at_∧(∀j,at_≤j→j<q→∀h:j<s.size,s[j]≠10∧s[j]≠13)∧wr.ownsRow w0.heap.size 50 3 v done.length (done.flatMap lnV)∧(done=[]→v= .slice none 0 0)∧Below w0.heap.size w0 wr
theorem Zpb (s:ByteArray)(hs:s.size≤1000000)(w:World):
 Calls Tryz.prog 17 #[.string s] w (ZdJ s.data.toList w):=by
 generalize hP:ZdJ s.data.toList w=P at*;obtain⟨i0,hi,iz0,iz1,iz2⟩:=info_parts Zti;have hlen:=ZaR s;go_enter Tryz.func17,Tryz.ntmps17
 go_wp2_with fail
 go_loopw [3,4,5] (fun v a i wr=>RlRel s w v a i wr) (fun _ _ i _=>s.size - (intOf i).toNat)
 case atStart=>exact⟨[],0,0,s.data.toList.length,by omega,by omega,rfl,rfl,rfl,by omega,by simp,fun j h1 h2=>by omega,⟨rfl,.inl ⟨rfl,rfl⟩⟩,fun _=>rfl,Below.refl _ _⟩
 case round=>
  obtain⟨done,at_,q,f,haq,hq,rfl,rfl,hl,hf,hd,hno,hown,h0,hb⟩:=hrel;have hz:=hb.size;by_cases hlt:q<s.size
  · by_cases hn:s[q]≠10∧s[q]≠13
    · have c1:((s[q].toNat:Int) !=10)=true:=(ZcZ (n:=10) (Zc8 hn.1)).1;have c2:((s[q].toNat:Int) !=13)=true:=(ZcZ (n:=13) (Zc8 hn.2)).1;have Hno:=Lib.hid (show∀j,at_≤j→j<q+1→∀h:j<s.size,s[j]≠10∧s[j]≠13 from fun j h1 h2 h=>by
       by_cases e:j=q
       · subst e;exact hn
       · exact hno j h1 (by omega) h)
      have Hl:=Lib.hid hl;have Hown:=Lib.hid hown;have H0:=Lib.hid h0;clear hn hno hl hown h0;go_wp2_with fail
      go_roundw
      case rel=>exact⟨done,at_,q+1,f,by omega,by omega,rfl,by go_num,Hl.out,hf,hd,Hno.out,Hown.out,H0.out,hb⟩
      case measure=>simp [intOf];omega
    · have hrl:(s.data.toList.drop at_).length=s.size - at_:=by rw [List.length_drop,hlen]
      have hne:s.data.toList.drop at_≠[]:=by intro e;rw [e] at hrl;simp at hrl;omega
      obtain⟨f',rfl⟩:∃f',f=f'+1:=⟨f - 1,by omega⟩
      obtain⟨n,hnn⟩:∃n,n=(lnT (s.data.toList.drop at_)).length:=⟨_,rfl⟩
      obtain⟨h1,h2,h3,h4⟩:=Zh0 s at_ n (by omega) hnn;have hnq:n=q - at_:=by
       rcases Nat.lt_trichotomy n (q - at_) with h|h|h
       · have a:=h3 (by omega);have b:=hno (at_+n) (by omega) (by omega) (by omega);rcases a with a|a
         · exact absurd a b.1
         · exact absurd a b.2
       · exact h
       · have a:=h2 (q - at_) h (by omega);have e:at_+(q - at_)=q:=by omega
         simp only [e] at a;exact absurd a hn
      obtain⟨g1,g2,g3,g4⟩:=Zhi s at_ n hnn;have hX:=fun m hm=>ZlE s at_ n m hnn hm;have hTl:=hnn.symm;subst hnq;have eq1:at_+(q - at_)=q:=by omega
      simp only [eq1] at h3 h4 g1 g2 g3 g4 hX;have HE1:=Lib.hid h4;have Hown:=Lib.hid hown;clear hown h0 hno hnn;have hn2:s[q]=10∨s[q]=13:=h3 hlt;clear hn;rcases hn2 with e10|e13
      · have c1:((s[q].toNat:Int) !=10)=false:=by rw [e10];rfl
        have c2:((s[q].toNat:Int)==13)=false:=by rw [e10];rfl
        have hE:=Lib.hid (g2 hlt e10);clear e10;have Hst:=Lib.hid (show Zv s.data.toList=(done++[(lnT (s.data.toList.drop at_),lnE (s.data.toList.drop at_),at_)])++ZG f' (s.data.toList.drop (q+1)) (q+1) by
         rw [hl,ZG,if_neg hne,List.drop_drop,List.append_assoc,hE.out,hTl,show at_+(q - at_+([10]:List UInt8).length)=q+1 by simp;omega];rfl)
        have HX:=Lib.hid (show s.extract q (q+1)=B (lnE (s.data.toList.drop at_)) by rw [←hX 1 (by rw [hE.out];rfl)]);clear hl hne hX g1 g2 g3 g4 h1 h2 h3 h4;go_wp2_with fail
        refine ZeX (fun _=>True) (.one 0 true (.one 1 true (.one 2 true (.one 3 true (.one 4 true (.one 5 true (.one 6 true (.one 7 true (.one 8 true (.one 9 true (.one 10 true (.one 11 true (.one 12 true (.one 13 false (.one 14 false (.one 15 true .nil)))))))))))))))) (by kernel_rfl) (by kernel_rfl) (by kernel_rfl) (Nat.le_of_ble_eq_true rfl) (fun _ _ d _ _ h=>by cases d<;>exact h) trivial ?_;refine' Zg rfl (by rfl) _ (fun w hSw=>_) _
        rotate_left
        · go_simp
          try with_reducible rfl
        try simp only [Act.put,List.setIfInBounds_toArray,List.set_cons_zero,List.set_cons_succ]
        refine' Zg rfl (by rfl) _ (fun w hSw=>_) _
        rotate_left
        · go_simp
          try with_reducible rfl
        try simp only [Act.put,List.setIfInBounds_toArray,List.set_cons_zero,List.set_cons_succ]
        refine' Zg rfl (by rfl) _ (fun w hSw=>_) _
        rotate_left
        · go_simp
          try with_reducible rfl
        try simp only [Act.put,List.setIfInBounds_toArray,List.set_cons_zero,List.set_cons_succ]
        refine' Zg rfl (by rfl) _ (fun w hSw=>_) _
        rotate_left
        · go_simp
          try with_reducible rfl
        try simp only [Act.put,List.setIfInBounds_toArray,List.set_cons_zero,List.set_cons_succ]
        refine Zg rfl (by rfl) (.string (s.extract at_ q)) (fun w hSw=>by go_simp;first|done|(rw [if_pos (by omega),if_pos (by omega)])) ?_
        try simp only [Act.put,List.setIfInBounds_toArray,List.set_cons_zero,List.set_cons_succ]
        refine' Zg rfl (by rfl) _ (fun w hSw=>_) _
        rotate_left
        · go_simp
          try with_reducible rfl
        try simp only [Act.put,List.setIfInBounds_toArray,List.set_cons_zero,List.set_cons_succ]
        refine' Zg rfl (by rfl) _ (fun w hSw=>_) _
        rotate_left
        · go_simp
          try with_reducible rfl
        try simp only [Act.put,List.setIfInBounds_toArray,List.set_cons_zero,List.set_cons_succ]
        refine' Zg rfl (by rfl) _ (fun w hSw=>_) _
        rotate_left
        · go_simp
          try with_reducible rfl
        try simp only [Act.put,List.setIfInBounds_toArray,List.set_cons_zero,List.set_cons_succ]
        refine' Zg rfl (by rfl) _ (fun w hSw=>_) _
        rotate_left
        · go_simp
          try with_reducible rfl
        try simp only [Act.put,List.setIfInBounds_toArray,List.set_cons_zero,List.set_cons_succ]
        refine Zg rfl (by rfl) (.int .i64 ((q:Int)+1)) (fun w hSw=>by go_simp;first|done|(rw [IntWalk.i64_in _ (by omega)])) ?_
        try simp only [Act.put,List.setIfInBounds_toArray,List.set_cons_zero,List.set_cons_succ]
        refine Zg rfl (by rfl) (.string (s.extract q (q+1))) (fun w hSw=>by go_simp;first|done|(rw [if_pos (by omega),if_pos (by omega)];done)|(rw [if_pos (by omega)];done)|(rw [if_pos (by omega),if_pos (by omega),show((q:Int)+2).toNat=q+2 by omega];done)|(intro h;omega)) ?_
        try simp only [Act.put,List.setIfInBounds_toArray,List.set_cons_zero,List.set_cons_succ]
        refine' Zg rfl (by rfl) _ (fun w hSw=>_) _
        rotate_left
        · go_simp
          try with_reducible rfl
        try simp only [Act.put,List.setIfInBounds_toArray,List.set_cons_zero,List.set_cons_succ]
        refine' Zg rfl (by rfl) _ (fun w hSw=>_) _
        rotate_left
        · go_simp
          try with_reducible rfl
        try simp only [Act.put,List.setIfInBounds_toArray,List.set_cons_zero,List.set_cons_succ]
        refine Zaf (ZU rfl (by rfl) (fun K hK=> ?_))
        go_simp
        go_wp2_with fail
        refine hK.out _ _ trivial ?_;clear hK K
        try simp only [Act.put,List.setIfInBounds_toArray,List.set_cons_zero,List.set_cons_succ]
        refine Zaf (ZU rfl (by rfl) (fun K hK=> ?_));refine wp_append_own _ _ _ 47 rfl w.heap.size 50 i0 _ 3 40 Tryz.underlying47 hi iz0 iz1 iz2 rfl (by decide) _ done.length _ rfl ((Hown.out.drew).alloc (.cells #[.string (s.extract at_ q),.string (s.extract q (q+1)),.int .i64 at_] 50)) ⟨wr.drew.heap.size,0,none⟩ 1 1 [.string (s.extract at_ q),.string (s.extract q (q+1)),.int .i64 at_] rfl rfl (Zcn wr.drew _ _ _ _) (by intro u hu;simp at hu;rcases hu with rfl|rfl|rfl<;>rfl) (by unfold maxLen;omega) (by omega) (by simp;omega) ?_;intro v' w2 hown2 hg2 h02;refine hK.out _ _ trivial ?_;clear hK K
        try simp only [Act.put,List.setIfInBounds_toArray,List.set_cons_zero,List.set_cons_succ]
        refine' Zg rfl (by rfl) _ (fun w hSw=>_) _
        rotate_left
        · go_simp
          try with_reducible rfl
        try simp only [Act.put,List.setIfInBounds_toArray,List.set_cons_zero,List.set_cons_succ]
        refine Zc3 ?_;have hB2:=Z3 (hb.drew.alloc (by exact hz) (.cells #[.string (s.extract at_ q),.string (s.extract q (q+1)),.int .i64 at_] 50)) ((Hown.out.drew).alloc (.cells #[.string (s.extract at_ q),.string (s.extract q (q+1)),.int .i64 at_] 50)) hg2 (by simp;omega) (Nat.le_refl _);have Hown2:=Lib.hid hown2;clear hown2 hg2 h02;go_wp2_with fail
        go_roundw
        case rel=>
         refine⟨done++[(lnT (s.data.toList.drop at_),lnE (s.data.toList.drop at_),at_)],q+1,q+1,f',by omega,by omega,by go_num,by go_num,Hst.out,by omega,by simp;omega,fun j h1 h2=>absurd h1 (by omega),?_,fun e=>by simp at e,hB2⟩;have:=Hown2.out;rw [HE1.out,HX.out] at this;simp only [List.length_append,List.flatMap_append,List.length_cons,List.length_nil,List.flatMap_cons,List.flatMap_nil,List.append_nil,Nat.zero_add];exact this
        case measure=>simp [intOf];omega
      · have c1:((s[q].toNat:Int) !=10)=true:=by rw [e13];rfl
        have c2:((s[q].toNat:Int) !=13)=false:=by rw [e13];rfl
        have c3:((s[q].toNat:Int)==13)=true:=by rw [e13];rfl
        by_cases hq2:q+1<s.size
        · by_cases e10:s[q+1]=10
          · have c4:((s[q+1].toNat:Int)==10)=true:=by rw [e10];rfl
            have hE:=Lib.hid (g3 hlt hq2 e13 e10);clear e10 e13;have Hst:=Lib.hid (show Zv s.data.toList=(done++[(lnT (s.data.toList.drop at_),lnE (s.data.toList.drop at_),at_)])++ZG f' (s.data.toList.drop (q+2)) (q+2) by
             rw [hl,ZG,if_neg hne,List.drop_drop,List.append_assoc,hE.out,hTl,show at_+(q - at_+([13,10]:List UInt8).length)=q+2 by simp;omega];rfl)
            have HX:=Lib.hid (show s.extract q (q+2)=B (lnE (s.data.toList.drop at_)) by rw [←hX 2 (by rw [hE.out];rfl)]);clear hl hne hX g1 g2 g3 g4 h1 h2 h3 h4;go_wp2_with fail
            refine ZeX (fun _=>True) (.one 0 true (.one 1 true (.one 2 true (.one 3 true (.one 4 true (.one 5 true (.one 6 true (.one 7 true (.one 8 true (.one 9 true (.one 10 true (.one 11 true (.one 12 true (.one 13 false (.one 14 false (.one 15 true .nil)))))))))))))))) (by kernel_rfl) (by kernel_rfl) (by kernel_rfl) (Nat.le_of_ble_eq_true rfl) (fun _ _ d _ _ h=>by cases d<;>exact h) trivial ?_;refine' Zg rfl (by rfl) _ (fun w hSw=>_) _
            rotate_left
            · go_simp
              try with_reducible rfl
            try simp only [Act.put,List.setIfInBounds_toArray,List.set_cons_zero,List.set_cons_succ]
            refine' Zg rfl (by rfl) _ (fun w hSw=>_) _
            rotate_left
            · go_simp
              try with_reducible rfl
            try simp only [Act.put,List.setIfInBounds_toArray,List.set_cons_zero,List.set_cons_succ]
            refine' Zg rfl (by rfl) _ (fun w hSw=>_) _
            rotate_left
            · go_simp
              try with_reducible rfl
            try simp only [Act.put,List.setIfInBounds_toArray,List.set_cons_zero,List.set_cons_succ]
            refine' Zg rfl (by rfl) _ (fun w hSw=>_) _
            rotate_left
            · go_simp
              try with_reducible rfl
            try simp only [Act.put,List.setIfInBounds_toArray,List.set_cons_zero,List.set_cons_succ]
            refine Zg rfl (by rfl) (.string (s.extract at_ q)) (fun w hSw=>by go_simp;first|done|(rw [if_pos (by omega),if_pos (by omega)])) ?_
            try simp only [Act.put,List.setIfInBounds_toArray,List.set_cons_zero,List.set_cons_succ]
            refine' Zg rfl (by rfl) _ (fun w hSw=>_) _
            rotate_left
            · go_simp
              try with_reducible rfl
            try simp only [Act.put,List.setIfInBounds_toArray,List.set_cons_zero,List.set_cons_succ]
            refine' Zg rfl (by rfl) _ (fun w hSw=>_) _
            rotate_left
            · go_simp
              try with_reducible rfl
            try simp only [Act.put,List.setIfInBounds_toArray,List.set_cons_zero,List.set_cons_succ]
            refine' Zg rfl (by rfl) _ (fun w hSw=>_) _
            rotate_left
            · go_simp
              try with_reducible rfl
            try simp only [Act.put,List.setIfInBounds_toArray,List.set_cons_zero,List.set_cons_succ]
            refine' Zg rfl (by rfl) _ (fun w hSw=>_) _
            rotate_left
            · go_simp
              try with_reducible rfl
            try simp only [Act.put,List.setIfInBounds_toArray,List.set_cons_zero,List.set_cons_succ]
            refine Zg rfl (by rfl) (.int .i64 ((q:Int)+2)) (fun w hSw=>by go_simp;first|done|(rw [IntWalk.i64_in _ (by omega)])) ?_
            try simp only [Act.put,List.setIfInBounds_toArray,List.set_cons_zero,List.set_cons_succ]
            refine Zg rfl (by rfl) (.string (s.extract q (q+2))) (fun w hSw=>by go_simp;first|done|(rw [if_pos (by omega),if_pos (by omega)];done)|(rw [if_pos (by omega)];done)|(rw [if_pos (by omega),if_pos (by omega),show((q:Int)+2).toNat=q+2 by omega];done)|(intro h;omega)) ?_
            try simp only [Act.put,List.setIfInBounds_toArray,List.set_cons_zero,List.set_cons_succ]
            refine' Zg rfl (by rfl) _ (fun w hSw=>_) _
            rotate_left
            · go_simp
              try with_reducible rfl
            try simp only [Act.put,List.setIfInBounds_toArray,List.set_cons_zero,List.set_cons_succ]
            refine' Zg rfl (by rfl) _ (fun w hSw=>_) _
            rotate_left
            · go_simp
              try with_reducible rfl
            try simp only [Act.put,List.setIfInBounds_toArray,List.set_cons_zero,List.set_cons_succ]
            refine Zaf (ZU rfl (by rfl) (fun K hK=> ?_))
            go_simp
            go_wp2_with fail
            refine hK.out _ _ trivial ?_;clear hK K
            try simp only [Act.put,List.setIfInBounds_toArray,List.set_cons_zero,List.set_cons_succ]
            refine Zaf (ZU rfl (by rfl) (fun K hK=> ?_));refine wp_append_own _ _ _ 47 rfl w.heap.size 50 i0 _ 3 40 Tryz.underlying47 hi iz0 iz1 iz2 rfl (by decide) _ done.length _ rfl ((Hown.out.drew).alloc (.cells #[.string (s.extract at_ q),.string (s.extract q (q+2)),.int .i64 at_] 50)) ⟨wr.drew.heap.size,0,none⟩ 1 1 [.string (s.extract at_ q),.string (s.extract q (q+2)),.int .i64 at_] rfl rfl (Zcn wr.drew _ _ _ _) (by intro u hu;simp at hu;rcases hu with rfl|rfl|rfl<;>rfl) (by unfold maxLen;omega) (by omega) (by simp;omega) ?_;intro v' w2 hown2 hg2 h02;refine hK.out _ _ trivial ?_;clear hK K
            try simp only [Act.put,List.setIfInBounds_toArray,List.set_cons_zero,List.set_cons_succ]
            refine' Zg rfl (by rfl) _ (fun w hSw=>_) _
            rotate_left
            · go_simp
              try with_reducible rfl
            try simp only [Act.put,List.setIfInBounds_toArray,List.set_cons_zero,List.set_cons_succ]
            refine Zc3 ?_;have hB2:=Z3 (hb.drew.alloc (by exact hz) (.cells #[.string (s.extract at_ q),.string (s.extract q (q+2)),.int .i64 at_] 50)) ((Hown.out.drew).alloc (.cells #[.string (s.extract at_ q),.string (s.extract q (q+2)),.int .i64 at_] 50)) hg2 (by simp;omega) (Nat.le_refl _);have Hown2:=Lib.hid hown2;clear hown2 hg2 h02;go_wp2_with fail
            go_roundw
            case rel=>
             refine⟨done++[(lnT (s.data.toList.drop at_),lnE (s.data.toList.drop at_),at_)],q+2,q+2,f',by omega,by omega,by go_num,by go_num,Hst.out,by omega,by simp;omega,fun j h1 h2=>absurd h1 (by omega),?_,fun e=>by simp at e,hB2⟩;have:=Hown2.out;rw [HE1.out,HX.out] at this;simp only [List.length_append,List.flatMap_append,List.length_cons,List.length_nil,List.flatMap_cons,List.flatMap_nil,List.append_nil,Nat.zero_add];exact this
            case measure=>simp [intOf];omega
          · have c4:((s[q+1].toNat:Int)==10)=false:=(ZcZ (n:=10) (Zc8 e10)).2;have hE:=Lib.hid (g4 hlt e13 (fun _=>e10));clear e10 e13;have Hst:=Lib.hid (show Zv s.data.toList=(done++[(lnT (s.data.toList.drop at_),lnE (s.data.toList.drop at_),at_)])++ZG f' (s.data.toList.drop (q+1)) (q+1) by
             rw [hl,ZG,if_neg hne,List.drop_drop,List.append_assoc,hE.out,hTl,show at_+(q - at_+([13]:List UInt8).length)=q+1 by simp;omega];rfl)
            have HX:=Lib.hid (show s.extract q (q+1)=B (lnE (s.data.toList.drop at_)) by rw [←hX 1 (by rw [hE.out];rfl)]);clear hl hne hX g1 g2 g3 g4 h1 h2 h3 h4;go_wp2_with fail
            refine ZeX (fun _=>True) (.one 0 true (.one 1 true (.one 2 true (.one 3 true (.one 4 true (.one 5 true (.one 6 true (.one 7 true (.one 8 true (.one 9 true (.one 10 true (.one 11 true (.one 12 true (.one 13 false (.one 14 false (.one 15 true .nil)))))))))))))))) (by kernel_rfl) (by kernel_rfl) (by kernel_rfl) (Nat.le_of_ble_eq_true rfl) (fun _ _ d _ _ h=>by cases d<;>exact h) trivial ?_;refine' Zg rfl (by rfl) _ (fun w hSw=>_) _
            rotate_left
            · go_simp
              try with_reducible rfl
            try simp only [Act.put,List.setIfInBounds_toArray,List.set_cons_zero,List.set_cons_succ]
            refine' Zg rfl (by rfl) _ (fun w hSw=>_) _
            rotate_left
            · go_simp
              try with_reducible rfl
            try simp only [Act.put,List.setIfInBounds_toArray,List.set_cons_zero,List.set_cons_succ]
            refine' Zg rfl (by rfl) _ (fun w hSw=>_) _
            rotate_left
            · go_simp
              try with_reducible rfl
            try simp only [Act.put,List.setIfInBounds_toArray,List.set_cons_zero,List.set_cons_succ]
            refine' Zg rfl (by rfl) _ (fun w hSw=>_) _
            rotate_left
            · go_simp
              try with_reducible rfl
            try simp only [Act.put,List.setIfInBounds_toArray,List.set_cons_zero,List.set_cons_succ]
            refine Zg rfl (by rfl) (.string (s.extract at_ q)) (fun w hSw=>by go_simp;first|done|(rw [if_pos (by omega),if_pos (by omega)])) ?_
            try simp only [Act.put,List.setIfInBounds_toArray,List.set_cons_zero,List.set_cons_succ]
            refine' Zg rfl (by rfl) _ (fun w hSw=>_) _
            rotate_left
            · go_simp
              try with_reducible rfl
            try simp only [Act.put,List.setIfInBounds_toArray,List.set_cons_zero,List.set_cons_succ]
            refine' Zg rfl (by rfl) _ (fun w hSw=>_) _
            rotate_left
            · go_simp
              try with_reducible rfl
            try simp only [Act.put,List.setIfInBounds_toArray,List.set_cons_zero,List.set_cons_succ]
            refine' Zg rfl (by rfl) _ (fun w hSw=>_) _
            rotate_left
            · go_simp
              try with_reducible rfl
            try simp only [Act.put,List.setIfInBounds_toArray,List.set_cons_zero,List.set_cons_succ]
            refine' Zg rfl (by rfl) _ (fun w hSw=>_) _
            rotate_left
            · go_simp
              try with_reducible rfl
            try simp only [Act.put,List.setIfInBounds_toArray,List.set_cons_zero,List.set_cons_succ]
            refine Zg rfl (by rfl) (.int .i64 ((q:Int)+1)) (fun w hSw=>by go_simp;first|done|(rw [IntWalk.i64_in _ (by omega)])) ?_
            try simp only [Act.put,List.setIfInBounds_toArray,List.set_cons_zero,List.set_cons_succ]
            refine Zg rfl (by rfl) (.string (s.extract q (q+1))) (fun w hSw=>by go_simp;first|done|(rw [if_pos (by omega),if_pos (by omega)];done)|(rw [if_pos (by omega)];done)|(rw [if_pos (by omega),if_pos (by omega),show((q:Int)+2).toNat=q+2 by omega];done)|(intro h;omega)) ?_
            try simp only [Act.put,List.setIfInBounds_toArray,List.set_cons_zero,List.set_cons_succ]
            refine' Zg rfl (by rfl) _ (fun w hSw=>_) _
            rotate_left
            · go_simp
              try with_reducible rfl
            try simp only [Act.put,List.setIfInBounds_toArray,List.set_cons_zero,List.set_cons_succ]
            refine' Zg rfl (by rfl) _ (fun w hSw=>_) _
            rotate_left
            · go_simp
              try with_reducible rfl
            try simp only [Act.put,List.setIfInBounds_toArray,List.set_cons_zero,List.set_cons_succ]
            refine Zaf (ZU rfl (by rfl) (fun K hK=> ?_))
            go_simp
            go_wp2_with fail
            refine hK.out _ _ trivial ?_;clear hK K
            try simp only [Act.put,List.setIfInBounds_toArray,List.set_cons_zero,List.set_cons_succ]
            refine Zaf (ZU rfl (by rfl) (fun K hK=> ?_));refine wp_append_own _ _ _ 47 rfl w.heap.size 50 i0 _ 3 40 Tryz.underlying47 hi iz0 iz1 iz2 rfl (by decide) _ done.length _ rfl ((Hown.out.drew).alloc (.cells #[.string (s.extract at_ q),.string (s.extract q (q+1)),.int .i64 at_] 50)) ⟨wr.drew.heap.size,0,none⟩ 1 1 [.string (s.extract at_ q),.string (s.extract q (q+1)),.int .i64 at_] rfl rfl (Zcn wr.drew _ _ _ _) (by intro u hu;simp at hu;rcases hu with rfl|rfl|rfl<;>rfl) (by unfold maxLen;omega) (by omega) (by simp;omega) ?_;intro v' w2 hown2 hg2 h02;refine hK.out _ _ trivial ?_;clear hK K
            try simp only [Act.put,List.setIfInBounds_toArray,List.set_cons_zero,List.set_cons_succ]
            refine' Zg rfl (by rfl) _ (fun w hSw=>_) _
            rotate_left
            · go_simp
              try with_reducible rfl
            try simp only [Act.put,List.setIfInBounds_toArray,List.set_cons_zero,List.set_cons_succ]
            refine Zc3 ?_;have hB2:=Z3 (hb.drew.alloc (by exact hz) (.cells #[.string (s.extract at_ q),.string (s.extract q (q+1)),.int .i64 at_] 50)) ((Hown.out.drew).alloc (.cells #[.string (s.extract at_ q),.string (s.extract q (q+1)),.int .i64 at_] 50)) hg2 (by simp;omega) (Nat.le_refl _);have Hown2:=Lib.hid hown2;clear hown2 hg2 h02;go_wp2_with fail
            go_roundw
            case rel=>
             refine⟨done++[(lnT (s.data.toList.drop at_),lnE (s.data.toList.drop at_),at_)],q+1,q+1,f',by omega,by omega,by go_num,by go_num,Hst.out,by omega,by simp;omega,fun j h1 h2=>absurd h1 (by omega),?_,fun e=>by simp at e,hB2⟩;have:=Hown2.out;rw [HE1.out,HX.out] at this;simp only [List.length_append,List.flatMap_append,List.length_cons,List.length_nil,List.flatMap_cons,List.flatMap_nil,List.append_nil,Nat.zero_add];exact this
            case measure=>simp [intOf];omega
        · have hE:=Lib.hid (g4 hlt e13 (fun h=>absurd h hq2));clear e13;have Hst:=Lib.hid (show Zv s.data.toList=(done++[(lnT (s.data.toList.drop at_),lnE (s.data.toList.drop at_),at_)])++ZG f' (s.data.toList.drop (q+1)) (q+1) by
           rw [hl,ZG,if_neg hne,List.drop_drop,List.append_assoc,hE.out,hTl,show at_+(q - at_+([13]:List UInt8).length)=q+1 by simp;omega];rfl)
          have HX:=Lib.hid (show s.extract q (q+1)=B (lnE (s.data.toList.drop at_)) by rw [←hX 1 (by rw [hE.out];rfl)]);clear hl hne hX g1 g2 g3 g4 h1 h2 h3 h4;go_wp2_with fail
          refine ZeX (fun _=>True) (.one 0 true (.one 1 true (.one 2 true (.one 3 true (.one 4 true (.one 5 true (.one 6 true (.one 7 true (.one 8 true (.one 9 true (.one 10 true (.one 11 true (.one 12 true (.one 13 false (.one 14 false (.one 15 true .nil)))))))))))))))) (by kernel_rfl) (by kernel_rfl) (by kernel_rfl) (Nat.le_of_ble_eq_true rfl) (fun _ _ d _ _ h=>by cases d<;>exact h) trivial ?_;refine' Zg rfl (by rfl) _ (fun w hSw=>_) _
          rotate_left
          · go_simp
            try with_reducible rfl
          try simp only [Act.put,List.setIfInBounds_toArray,List.set_cons_zero,List.set_cons_succ]
          refine' Zg rfl (by rfl) _ (fun w hSw=>_) _
          rotate_left
          · go_simp
            try with_reducible rfl
          try simp only [Act.put,List.setIfInBounds_toArray,List.set_cons_zero,List.set_cons_succ]
          refine' Zg rfl (by rfl) _ (fun w hSw=>_) _
          rotate_left
          · go_simp
            try with_reducible rfl
          try simp only [Act.put,List.setIfInBounds_toArray,List.set_cons_zero,List.set_cons_succ]
          refine' Zg rfl (by rfl) _ (fun w hSw=>_) _
          rotate_left
          · go_simp
            try with_reducible rfl
          try simp only [Act.put,List.setIfInBounds_toArray,List.set_cons_zero,List.set_cons_succ]
          refine Zg rfl (by rfl) (.string (s.extract at_ q)) (fun w hSw=>by go_simp;first|done|(rw [if_pos (by omega),if_pos (by omega)])) ?_
          try simp only [Act.put,List.setIfInBounds_toArray,List.set_cons_zero,List.set_cons_succ]
          refine' Zg rfl (by rfl) _ (fun w hSw=>_) _
          rotate_left
          · go_simp
            try with_reducible rfl
          try simp only [Act.put,List.setIfInBounds_toArray,List.set_cons_zero,List.set_cons_succ]
          refine' Zg rfl (by rfl) _ (fun w hSw=>_) _
          rotate_left
          · go_simp
            try with_reducible rfl
          try simp only [Act.put,List.setIfInBounds_toArray,List.set_cons_zero,List.set_cons_succ]
          refine' Zg rfl (by rfl) _ (fun w hSw=>_) _
          rotate_left
          · go_simp
            try with_reducible rfl
          try simp only [Act.put,List.setIfInBounds_toArray,List.set_cons_zero,List.set_cons_succ]
          refine' Zg rfl (by rfl) _ (fun w hSw=>_) _
          rotate_left
          · go_simp
            try with_reducible rfl
          try simp only [Act.put,List.setIfInBounds_toArray,List.set_cons_zero,List.set_cons_succ]
          refine Zg rfl (by rfl) (.int .i64 ((q:Int)+1)) (fun w hSw=>by go_simp;first|done|(rw [IntWalk.i64_in _ (by omega)])) ?_
          try simp only [Act.put,List.setIfInBounds_toArray,List.set_cons_zero,List.set_cons_succ]
          refine Zg rfl (by rfl) (.string (s.extract q (q+1))) (fun w hSw=>by go_simp;first|done|(rw [if_pos (by omega),if_pos (by omega)];done)|(rw [if_pos (by omega)];done)|(rw [if_pos (by omega),if_pos (by omega),show((q:Int)+2).toNat=q+2 by omega];done)|(intro h;omega)) ?_
          try simp only [Act.put,List.setIfInBounds_toArray,List.set_cons_zero,List.set_cons_succ]
          refine' Zg rfl (by rfl) _ (fun w hSw=>_) _
          rotate_left
          · go_simp
            try with_reducible rfl
          try simp only [Act.put,List.setIfInBounds_toArray,List.set_cons_zero,List.set_cons_succ]
          refine' Zg rfl (by rfl) _ (fun w hSw=>_) _
          rotate_left
          · go_simp
            try with_reducible rfl
          try simp only [Act.put,List.setIfInBounds_toArray,List.set_cons_zero,List.set_cons_succ]
          refine Zaf (ZU rfl (by rfl) (fun K hK=> ?_))
          go_simp
          go_wp2_with fail
          refine hK.out _ _ trivial ?_;clear hK K
          try simp only [Act.put,List.setIfInBounds_toArray,List.set_cons_zero,List.set_cons_succ]
          refine Zaf (ZU rfl (by rfl) (fun K hK=> ?_));refine wp_append_own _ _ _ 47 rfl w.heap.size 50 i0 _ 3 40 Tryz.underlying47 hi iz0 iz1 iz2 rfl (by decide) _ done.length _ rfl ((Hown.out.drew).alloc (.cells #[.string (s.extract at_ q),.string (s.extract q (q+1)),.int .i64 at_] 50)) ⟨wr.drew.heap.size,0,none⟩ 1 1 [.string (s.extract at_ q),.string (s.extract q (q+1)),.int .i64 at_] rfl rfl (Zcn wr.drew _ _ _ _) (by intro u hu;simp at hu;rcases hu with rfl|rfl|rfl<;>rfl) (by unfold maxLen;omega) (by omega) (by simp;omega) ?_;intro v' w2 hown2 hg2 h02;refine hK.out _ _ trivial ?_;clear hK K
          try simp only [Act.put,List.setIfInBounds_toArray,List.set_cons_zero,List.set_cons_succ]
          refine' Zg rfl (by rfl) _ (fun w hSw=>_) _
          rotate_left
          · go_simp
            try with_reducible rfl
          try simp only [Act.put,List.setIfInBounds_toArray,List.set_cons_zero,List.set_cons_succ]
          refine Zc3 ?_;have hB2:=Z3 (hb.drew.alloc (by exact hz) (.cells #[.string (s.extract at_ q),.string (s.extract q (q+1)),.int .i64 at_] 50)) ((Hown.out.drew).alloc (.cells #[.string (s.extract at_ q),.string (s.extract q (q+1)),.int .i64 at_] 50)) hg2 (by simp;omega) (Nat.le_refl _);have Hown2:=Lib.hid hown2;clear hown2 hg2 h02;go_wp2_with fail
          go_roundw
          case rel=>
           refine⟨done++[(lnT (s.data.toList.drop at_),lnE (s.data.toList.drop at_),at_)],q+1,q+1,f',by omega,by omega,by go_num,by go_num,Hst.out,by omega,by simp;omega,fun j h1 h2=>absurd h1 (by omega),?_,fun e=>by simp at e,hB2⟩;have:=Hown2.out;rw [HE1.out,HX.out] at this;simp only [List.length_append,List.flatMap_append,List.length_cons,List.length_nil,List.flatMap_cons,List.flatMap_nil,List.append_nil,Nat.zero_add];exact this
          case measure=>simp [intOf];omega
  · have hqe:q=s.size:=by omega
    by_cases hat:at_<s.size
    · have hrl:(s.data.toList.drop at_).length=s.size - at_:=by rw [List.length_drop,hlen]
      have hne:s.data.toList.drop at_≠[]:=by intro e;rw [e] at hrl;simp at hrl;omega
      obtain⟨f',rfl⟩:∃f',f=f'+1:=⟨f - 1,by omega⟩
      obtain⟨n,hnn⟩:∃n,n=(lnT (s.data.toList.drop at_)).length:=⟨_,rfl⟩
      obtain⟨h1,h2,h3,h4⟩:=Zh0 s at_ n (by omega) hnn;have hnq:at_+n=s.size:=by
       by_cases e:at_+n=s.size
       · exact e
       · have a:=h3 (by omega);have b:=hno (at_+n) (by omega) (by omega) (by omega);rcases a with a|a
         · exact absurd a b.1
         · exact absurd a b.2
      obtain⟨g1,_,_,_⟩:=Zhi s at_ n hnn;have hE:=g1 hnq;rw [hnq] at h4;have HX:=Lib.hid h4;have Hl:=Lib.hid (show Zv s.data.toList=done++[(lnT (s.data.toList.drop at_),[],at_)] by
       have hdd:(s.data.toList.drop at_).drop ((lnT (s.data.toList.drop at_)).length+([]:List UInt8).length)=[]:=List.drop_of_length_le (by rw [hrl];simp;omega);rw [hl,ZG,if_neg hne,hE,hdd,ZfK])
      have Hown:=Lib.hid hown;clear hl hne hno hown h0 h1 h2 h3 h4 g1 hE hnq hnn hqe;go_wp2_with (at_builtin;refine wpList_append_own _ rfl _ _ 47 rfl w.heap.size 50 i0 _ 3 40 Tryz.underlying47 hi iz0 iz1 iz2 rfl (by decide) _ done.length _ rfl (Hown.out.alloc _) ⟨wr.heap.size,0,none⟩ 1 1 [.string (s.extract at_ s.size),.string ⟨#[]⟩,.int .i64 at_] rfl rfl ?d1 ?d2 ?d3 ?d4 ?d5 ?_)
      case d1=>exact Zcn wr _ _ _ _
      case d2=>intro u hu;simp at hu;rcases hu with rfl|rfl|rfl<;>rfl
      case d3=>unfold maxLen;omega
      case d4=>omega
      case d5=>simp;omega
      intro v3 w3 hown3 hg3 h03;have hB3:=Z3 (hb.alloc hz (.cells #[.string (s.extract at_ s.size),.string ⟨#[]⟩,.int .i64 at_] 50)) (Hown.out.alloc _) hg3 (by simp;omega) (Nat.le_refl _);have Hown3:=Lib.hid hown3;clear hown3 hg3 h03;go_wp2_with fail
      show P (.returned v3) _
      rw [←hP];refine⟨_,rfl,?_,hB3⟩;rw [Hl.out];refine ZB.of_own (base:=w.heap.size) (e:=50) (n:=done.length+1) (by simp) ?_ (fun e=>by simp at e);have:=Hown3.out;rw [HX.out] at this;simp only [List.flatMap_append,List.flatMap_cons,List.flatMap_nil,List.append_nil];exact this
    · have he:Zv s.data.toList=done:=by rw [hl,List.drop_of_length_le (by omega),ZfK,List.append_nil]
      have He:=Lib.hid he;have Hown:=Lib.hid hown;have H0:=Lib.hid h0;have hat2:¬at_<s.size:=hat;clear hl he hown h0 hno hqe;go_wp2_with fail
      show P (.returned _) _
      rw [←hP];refine⟨_,rfl,?_,hb⟩;rw [He.out];exact ZB.of_own rfl Hown.out H0.out
end Go.Proofs.YtlfinljfghhpdaaGreatDoor
