/- Lemmas for a statement on the tops; conditions: as each says. -/
import Derived.Lib.EndianBits
import Derived.Test.YtlfinljfghhpdaaGreatDoorM24
set_option linter.unusedVariables false
set_option linter.unusedSimpArgs false
set_option maxRecDepth 100000
set_option maxHeartbeats 4000000
namespace Go.Proofs.YtlfinljfghhpdaaGreatDoor
open Go Go.RowKit
def PrsL (w:World)(B:Nat)(A:Option Addr)(l:List Pr):Prop:=Reads w B 2 A l.length (l.flatMap prV)
theorem ZkV:∀(l:List Pr) (k i:Nat) (x:Pr),l[k]? =some x→i<2→(l.flatMap prV)[k*2+i]? =(prV x)[i]?
 |[],k,i,x,h,_=>by simp at h
 |a::l,0,i,x,h,hi=>by
  simp at h;subst h;rw [List.flatMap_cons,Nat.zero_mul,Nat.zero_add,List.getElem?_append_left (by simpa [prV] using hi)]
 |a::l,k+1,i,x,h,hi=>by
  rw [List.flatMap_cons,List.getElem?_append_right (by simp [prV];omega),show(prV a).length=2 from rfl,show(k+1)*2+i - 2=k*2+i by omega];exact ZkV l k i x (by simpa using h) hi
theorem PrsL.pair {w:World} {B:Nat} {A:Option Addr} {l:List Pr} (h:PrsL w B A l){k:Nat} {x:Pr} (hk:l[k]? =some x):
 ∃ad,A=some ad∧ad.block<B∧w.cell? (ad.add (k*2))=some (.int .i64 (x.1:Int))∧w.cell? ⟨(ad.add (k*2)).block,(ad.add (k*2)).off+1,none⟩=some (.int .i32 x.2)∧∀j u,(prV x)[j]? =some u→w.cell? ((ad.add (k*2)).add j)=some u:=by
 have hlt:k<l.length:=(List.getElem?_eq_some_iff.1 hk).1;obtain⟨ad,hA,hb,hc⟩:=h.2 (by omega);have hg:∀i u,(prV x)[i]? =some u→i<2→w.cell? (ad.add (k*2+i))=some u:=fun i u hu hi=>hc _ _ ((ZkV l k i x hk hi).trans hu);have g0:=hg 0 _ rfl (by omega);have g1:=hg 1 _ rfl (by omega);rw [Nat.add_zero] at g0;rw [ZjZ _ _ _ (by omega)] at g1;refine⟨ad,hA,hb,g0,g1,fun j u hu=> ?_⟩;have hj:j<2:=by have:=(List.getElem?_eq_some_iff.1 hu).1;exact this
 rw [ZgP];exact hg j u hu hj
def Zcv (w:World)(B:Nat)(A:Option Addr)(l:List Pce):Prop:=Reads w B 4 A l.length (l.flatMap pV)
theorem Zcv.below {w w':World} {B:Nat} {A:Option Addr} {l:List Pce} (h:Zcv w B A l)(hb:Below B w w'):Zcv w' B A l:=Reads.below h hb
theorem Zcv.more {w:World} {B B':Nat} {A:Option Addr} {l:List Pce} (h:Zcv w B A l)(hb:B≤B'):Zcv w B' A l:=Reads.more h hb
def mdL (l:List Pce):List Pr:=match Za1 [] l 0 with
 | .inl M=>M
 | .inr _=>[]
theorem ZlQ:∀(l:List Pce) (acc rs:List Rw) (i:Nat),Zak acc l i= .inl rs→rs.length≤acc.length+l.length
 |[],acc,rs,i,h=>by
  unfold Zak at h;injection h with h;subst h;simp
 |p::l,acc,rs,i,h=>by
  unfold Zak at h;split at h
  · cases h
  · split at h
    · cases h
    · have:=ZlQ l _ _ _ h;simp at this⊢;omega
theorem TbR.nil (w:World)(B:Nat):TbR w B none []:=⟨⟨Reads.none_,fun ad h=>by cases h⟩,fun x hx=>by simp at hx,by simp [Zdd]⟩
def ftE (l:List Pce):Int:=match Za1 [] l 0 with
 | .inl _=>0
 | .inr _=>5
def ftA (l:List Pce):Int:=match Za1 [] l 0 with
 | .inl _=>0
 | .inr k=>(k:Int)
def ZgB (l:List Pce)(w0:World)(e:Ending)(w':World):Prop:=∃A c rs,e= .returned (.tuple #[.agg #[.slice A rs.length c],.agg #[.int .i64 (ftE l),.int .i64 (ftA l)]])∧rs.length≤c∧rs.length≤4096∧TbR w' w'.heap.size A rs∧Zq rs=mdL l∧Below w0.heap.size w0 w'
theorem New_tb (l:List Pce)(A:Option Addr)(c:Nat)(hl:l.length≤4096)(hok:∀p∈l,Zbt p∧p.2.2.2.1.size≤1000000)(w:World)(hT:Zj w)(hA:Zcv w w.heap.size A l):
 Calls Tryz.prog 297 #[.slice A l.length c] w (ZgB l w):=by
 refine(ZoG l A c hl hok w hT hA).mono ?_;rintro e w' ⟨h,hb⟩;unfold ZgB ftE ftA mdL;rcases ZlR l [] [] 0 (fun p hp=>(hok p hp).1) Zum with⟨rs',M,h1,h2,h3⟩|⟨k,h1,h2⟩
 · rw [h2];rcases h with⟨A2,c2,rs,⟨rs0,h4,h5,h6⟩,h7,h8,h9,rfl⟩|⟨k,h4,_⟩
   · rw [h4] at h1;injection h1 with h1
     obtain⟨hro,hpr⟩:=Zun (rs':=rs.map (·.1)) h3 (by rw [←h1];exact h5.map _) (by rw [List.pairwise_map];exact h6);have hlen:=ZlQ l _ _ _ h4;rw [List.length_map] at hlen;simp only [List.length_nil,Nat.zero_add] at hlen;exact⟨A2,c2,rs,rfl,h7,by have:=h5.length_eq;omega,⟨h8,fun x hx=>h9 x hx,hro⟩,hpr,hb⟩
   · rw [h4] at h1;cases h1
 · rw [h2];rcases h with⟨A2,c2,rs,⟨rs0,h4,h5,h6⟩,h7,h8,h9,rfl⟩|⟨k2,h4,rfl⟩
   · rw [h4] at h1;cases h1
   · rw [h4] at h1;injection h1 with h1;subst h1
     exact⟨none,0,[],rfl,Nat.le_refl _,by simp,TbR.nil _ _,rfl,hb⟩
theorem TbR.set1 {w:World} {B g:Nat} {A A0:Option Addr} {n0 c0:Nat} {rs:List (Rw×Sl)} {T:TypeId} (h:TbR w B A rs)(hg:w.heap[g]? =some (.cells #[.slice A0 n0 c0] T (0,0)))(hT:T≠21)(v:Value):TbR (w.setCell ⟨g,0,none⟩ v) B A rs:=by
 refine⟨⟨⟨h.1.1.1,fun h0=> ?_⟩,h.1.2⟩,fun x hx=>⟨(h.2.1 x hx).1,Zm6 (h.2.1 x hx).2 v hg hT⟩,h.2.2⟩;obtain⟨x,hx⟩:∃x,rs[0]? =some x:=⟨_,List.getElem?_eq_getElem h0⟩
 obtain⟨ad',hA',_,hc',_⟩:=h.row hx;obtain⟨ad,hA,hb,hc⟩:=h.1.1.2 h0;rw [hA] at hA';injection hA' with hA';subst hA'
 have hsp:=h.1.2 ad hA;refine⟨ad,hA,hb,fun j u hu=> ?_⟩;have hbk:ad.block≠g:=by
  rintro rfl;rw [Zip hsp hg] at hc';rcases hi:ad.off+0*4 with _|i
  · rw [hi] at hc';simp at hc'
  · rw [hi] at hc';simp at hc'
 rw [ZbJ (by rw [ZaE];exact hbk)];exact hc j u hu
def ZaI (L:List Pr)(w0:World)(e:Ending)(w':World):Prop:=∃A c rs,e= .returned (.agg #[.slice A rs.length c])∧rs.length≤c∧rs.length≤4096∧TbR w' w'.heap.size A rs∧Zq rs=L∧Below w0.heap.size w0 w'
theorem Zs4 (w:World)(T:TypeId)(l:List Pce):Zcv (w.alloc (.cells (l.flatMap pV).toArray T)) (w.heap.size+1) (some ⟨w.heap.size,0,none⟩) l:=by
 refine⟨Zev pV Zmo l,fun _=>⟨_,rfl,by simp,fun j u hu=> ?_⟩⟩;have hadd:(⟨w.heap.size,0,none⟩:Addr).add j=⟨w.heap.size,j,none⟩:=by unfold Addr.add;split<;>simp_all
 rw [hadd,cell_of_row _ w.heap.size j _ T (0,0) (heap_alloc_new w _)];simpa using hu
theorem ZrP {c:UInt8} (h:0≤ZbO c):Lib.indexByte [48,49,50,51,52,53,54,55,56,57,65,66,67,68,69,70] c=ZbO c:=by
 have h2:∀n:Fin 256,0≤ZbO (UInt8.ofNat n.1)→Lib.indexByte [48,49,50,51,52,53,54,55,56,57,65,66,67,68,69,70] (UInt8.ofNat n.1)=ZbO (UInt8.ofNat n.1):=by decide+kernel
 have h3:=h2 ⟨c.toNat,c.toNat_lt⟩;rw [show UInt8.ofNat c.toNat=c by simp] at h3;exact h3 h
def HxRel (s4:ByteArray)(ps:List Int)(W0:World)(K:Nat)(v:Value)(wr:World):Prop:=
 ∃k i:Nat,Run ps k i∧wr.heap[K]? =some (.stringIter s4 i)∧(∃V:Int,v= .int .i32 V∧(ps.take k).foldl (fun p c=>p*16+ZbO c.toNat.toUInt8) 0=V∧0≤V∧V<16^k)∧Below K W0 wr
def SiRel (l:List UInt8)(w0:World)(v0 v3:Value)(wr:World):Prop:=
 ∃(k:Nat) (s:ByteArray),5*k≤l.length∧v0= .string s∧s.data.toList=l.drop (5*k)∧wr.ownsRow w0.heap.size 5 1 v3 (ZH ((ZV l).take k)).length ((ZH ((ZV l).take k)).map (Value.int .u8))∧Below w0.heap.size w0 wr
theorem ext_list (s:ByteArray)(a b:Nat):(s.extract a b).data.toList=(s.data.toList.take b).drop a:=by
 rw [List.drop_take];simp
theorem ZrU {x y:Int} (hy₀:0≤y)(hy:y<16)(hx₀:0≤x)(hx:x<134217728):bits .or .i32 (x*16) y=x*16+y:=
 bits_join .i32 31 (by decide) (fun n h0 h1=>by simp [IntKind.wrap,IntKind.bits,IntKind.signed];omega) 4 (x*16) y (by omega) (by omega) (by omega) hy₀ hy (by omega)
theorem ZpN (s:ByteArray)(hs:s.size≤100000)(hok:ZaQ s.data.toList=true)(w:World):
 Calls Tryz.prog 300 #[.string s] w fun e w'=>e= .returned (.string (tB (ZV s.data.toList)))∧Below w.heap.size w w':=by
 have hl0:s.data.toList.length=s.size:=by simp
 have HP:Hid (∀w',Below w.heap.size w w'→(fun e w'=>e=Ending.returned (.string (tB (ZV s.data.toList)))∧Below w.heap.size w w') (.returned (.string (tB (ZV s.data.toList)))) w'):=Lib.hid fun w' hb=>⟨rfl,hb⟩
 generalize (fun(e:Ending) (w':World)=>e=Ending.returned (.string (tB (ZV s.data.toList)))∧Below w.heap.size w w')=P at*;have Hok:=Lib.hid hok;clear hok;go_enter Tryz.func300,Tryz.ntmps300
 go_wp2_with fail
 go_loopw [0,3] (fun v0 v3 wr=>SiRel s.data.toList w v0 v3 wr) (fun v0 _ _=>match v0 with| .string t=>t.size|_=>0)
 case atStart=>exact⟨0,s,by omega,rfl,rfl,⟨rfl,.inl ⟨rfl,rfl⟩⟩,Below.refl _ _⟩
 case round=>
  obtain⟨k0,t,hk,rfl,ht,hown,hb⟩:=hrel;have htl:t.data.toList.length=t.size:=by simp
  obtain⟨wo,rfl⟩:∃wo:World,wo=wr:=⟨_,rfl⟩
  by_cases h5:5≤t.size
  · obtain⟨a,b,c,d,e,r,hd⟩:=Zhn t.data.toList (by omega);have ho:=Zhz k0 _ hk Hok.out;rw [←ht,hd] at ho;unfold ZaQ at ho;simp only [Bool.and_eq_true,List.all_cons,List.all_nil,decide_eq_true_eq,and_true] at ho;obtain⟨⟨⟨ha,hb',hc,hd'⟩,hsc⟩,_⟩:=ho;obtain⟨htk,hdr⟩:=ZrQ hk (ht.symm.trans hd);have h4:(t.extract 0 4).data.toList=[a,b,c,d]:=by rw [ext_list,hd];rfl
    have hz4:(t.extract 0 4).size=4:=by simp;omega
    obtain⟨hg1,hg2⟩:=Zhu [a,b,c,d] (fun x hx=>by
     simp only [List.mem_cons,List.not_mem_nil,or_false] at hx;rcases hx with rfl|rfl|rfl|rfl
     · exact(ZcG ha).1
     · exact(ZcG hb').1
     · exact(ZcG hc).1
     · exact(ZcG hd').1)
    have hg:Good (t.extract 0 4) ([a,b,c,d].map fun c:UInt8=>(c.toNat:Int)):=⟨h4.trans hg1.symm,hg2⟩
    have hp4:=hg.pre;have h5b:decide ((5:Int)≤t.size)=true:=by simp;omega
    have hit:=World.iter_heap wo (t.extract 0 4) 0;go_wp2_with fail
    go_loopw [4] (fun v4 wx=>HxRel (t.extract 0 4) ([a,b,c,d].map fun c:UInt8=>(c.toNat:Int)) wo wo.heap.size v4 wx) (fun _ wx=>5 - wx.iterPos wo.heap.size)
    case atStart=>exact⟨0,0,Run.zero _,hit,⟨0,rfl,rfl,by decide,by decide⟩,(Below.refl _ _).alloc (Nat.le_refl _) _⟩
    case round=>
     obtain⟨k,i,hrun,hK,⟨V,rfl,hV,hV0,hV1⟩,hbk⟩:=hrel;have HV:=Lib.hid hV;clear hV;have hlen4:([a,b,c,d].map fun c:UInt8=>(c.toNat:Int)).length=4:=rfl;by_cases hk4:k<([a,b,c,d].map fun c:UInt8=>(c.toNat:Int)).length
     · obtain⟨p,n,hst,hrun',hn1,hn4,hin,hp0,hp1,_⟩:=hrun.step hp4 hk4;have hstep:=fun ty=>ZfP (P:=Tryz.prog) hst (by omega) wr wo.heap.size hK ty;obtain⟨hpd,hp128⟩:0≤ZbO p.toNat.toUInt8∧p<128:=by
        have hm:p∈[a,b,c,d].map fun c:UInt8=>(c.toNat:Int):=by rw [hst.2.2.1];exact Zdo hk4
        obtain⟨x,hx,rfl⟩:=List.mem_map.1 hm;rw [show((x.toNat:Int).toNat.toUInt8)=x from Z6 rfl];simp only [List.mem_cons,List.not_mem_nil,or_false] at hx;rcases hx with rfl|rfl|rfl|rfl
        · exact⟨ha,by have:=(ZcG ha).1;omega⟩
        · exact⟨hb',by have:=(ZcG hb').1;omega⟩
        · exact⟨hc,by have:=(ZcG hc).1;omega⟩
        · exact⟨hd',by have:=(ZcG hd').1;omega⟩
       obtain⟨_,hd16⟩:=ZcG hpd;have hix:=fun W=>Tryz.strings_IndexRune_ascii ⟨#[48,49,50,51,52,53,54,55,56,57,65,66,67,68,69,70]⟩ p W hp0 hp128;rw [show(ByteArray.mk #[48,49,50,51,52,53,54,55,56,57,65,66,67,68,69,70]).data.toList=[48,49,50,51,52,53,54,55,56,57,65,66,67,68,69,70] from rfl,ZrP hpd] at hix;generalize hD:ZbO p.toNat.toUInt8=D at*;have HD:=Lib.hid hD;clear hD;have h16:(16:Int)^k≤4096:=by
        have:(16:Nat)^k≤16^3:=Nat.pow_le_pow_right (by decide) (by rw [hlen4] at hk4;omega)
        exact_mod_cast this
       go_wp2_with (go_at_call 213;refine(hix _).mono ?_;rintro e w5 ⟨rfl,rfl⟩)
       rw [ZrU hpd hd16 hV0 (by omega)];have hb2:=Lib.below_iterAt hbk (k:=wo.heap.size) (Nat.le_refl _) (t.extract 0 4) (i+n);have hK1:=Lib.iterAt_heap wr wo.heap.size (t.extract 0 4) i (i+n) hK;refine⟨⟨k+1,i+n,hrun',hK1,⟨V*16+D,rfl,?_,by omega,by rw [Int.pow_succ];omega⟩,hb2⟩,?_⟩
       · rw [hst.snoc hk4,List.foldl_append,HV.out];simp only [List.foldl_cons,List.foldl_nil];rw [HD.out]
       · rw [ZcV hK,ZcV hK1];omega
     · have hk2:k=([a,b,c,d].map fun c:UInt8=>(c.toNat:Int)).length:=Nat.le_antisymm hrun.1 (by omega);subst hk2;obtain⟨hi,_,hie⟩:=hrun.end_ hp4;have hend:=fun ty=>Lib.run_next_end_at (P:=Tryz.prog) wr wo.heap.size (t.extract 0 4) i ty hK (by simp at hie;omega);have hvv:V=hexV [a,b,c,d]:=by
        rw [←HV.out];unfold hexV;rw [List.take_length,List.foldl_map];have e:∀x:UInt8,x.toNat.toUInt8=x:=fun x=>by simp
        simp only [Int.toNat_natCast,e]
       have Hvv:=Lib.hid hvv;clear hvv hK hi hie hrun;rw [hlen4] at hV1;have hV2:V<65536:=by omega
       have hcap:(ZH ((ZV s.data.toList).take k0)).length+4≤140737488355328:=by
        have h1:=Zgb ((ZV s.data.toList).take k0);have h2:=(Zah ((ZV s.data.toList).take k0)).2;rw [List.length_take] at h2;omega
       have hnext:Hid ((ZH ((ZV s.data.toList).take (k0+1))).map (Value.int .u8)=(ZH ((ZV s.data.toList).take k0)).map (Value.int .u8)++Lib.runeCells V):=by
        rw [htk,←Hvv.out,Zgc,List.map_append];rfl
       have hnext2:Hid ((ZH ((ZV s.data.toList).take (k0+1))).length=(ZH ((ZV s.data.toList).take k0)).length+(Lib.runeCells V).length):=by
        have:=congrArg List.length hnext.out;simp only [List.length_map,List.length_append] at this;exact this
       have hownr:=Zt hown hbk;have hbr:Below w.heap.size w wr:=hb.trans (hbk.mono hb.size);go_wp2_with (go_at_call 194;refine(Tryz.utf8_AppendRune_plain _ _ _ _ V (by omega) (by omega) _ hownr hcap hbr.size).mono ?_;rintro e w2 ⟨v',rfl,hown2,o,hg2⟩)
       have hb2:Below w.heap.size w w2:=Z3 (hbr.alloc hbr.size o) (hownr.alloc o) hg2 (by have:=hbr.size;simp;omega) (Nat.le_refl _);rw [←hnext.out,←hnext2.out] at hown2;have h5':(5:Int)≤t.size:=by omega
       go_wp2_with fail
       go_roundw
       case rel=>exact⟨k0+1,t.extract 5 t.size,by have:=congrArg List.length ht;rw [List.length_drop,htl] at this;omega,rfl,by rw [ext_list,List.take_of_length_le (by omega),ht,List.drop_drop];rfl,hown2,hb2⟩
       case measure=>simp;omega
  · have hnil:=ZrR (by rw [←ht];omega) (Zhz k0 _ hk Hok.out);have hlt5:¬((5:Int)≤t.size):=by omega
    have hd2:=(Zhx k0 _ hk).1;rw [hnil] at hd2;have hle:(ZV s.data.toList).length≤k0:=by
     have:=congrArg List.length hd2;rw [List.length_drop] at this;simp [ZV] at this;omega
    rw [List.take_of_length_le hle] at hown;have hconv:=ZdP (P:=Tryz.prog) 79 9 5 Tryz.underlying79 Tryz.underlying5 Tryz.underlying9 wo hown;rw [Zf8] at hconv;go_wp2_with fail
    exact HP.out _ hb
theorem ZpB (l:List Pce)(A:Option Addr)(c:Nat)(hl:l.length≤4096)(hok:∀p∈l,Zbt p∧p.2.2.2.1.size≤1000000)(w:World)(hT:Zj w)(hA:Zcv w w.heap.size A l):
 Calls Tryz.prog 231 #[.slice A l.length c] w (ZaI (mdL l) w):=by
 have hn:=fun o=>New_tb l A c hl hok (w.alloc o) (ZN hT o) ((hA.below ((Below.refl _ _).alloc (Nat.le_refl _) o)).more (by simp));have HP:Hid (∀A c rs w',rs.length≤c→rs.length≤4096→TbR w' w'.heap.size A rs→Zq rs=mdL l→Below w.heap.size w w'→ZaI (mdL l) w (.returned (.agg #[.slice A rs.length c])) w'):=Lib.hid fun A c rs w' h1 h2 h3 h4 hb=>⟨A,c,rs,rfl,h1,h2,h3,h4,hb⟩
 generalize ZaI (mdL l) w=P at*;generalize ftE l=fe at*;generalize ftA l=fa at*;unfold ZgB at hn;go_enter Tryz.func231,Tryz.ntmps231
 go_wp2_with (go_at_call 297;refine(hn _).mono ?_;rintro e w3 ⟨A3,c3,rs,rfl,h1,h2,h3,h4,hb3⟩;have HB3:=Lib.hid (Zf hb3);have hz3:=hb3.size;simp only [World.size_alloc] at hz3;have g0:w.heap.size<w3.heap.size:=(by omega);have g1:w.heap.size<w3.heap.size+1:=(by omega);obtain⟨b0,f0,_⟩:=bx hb3;have d0:=b0 0;have d1:=f0 0)
 refine bodyPost_ret (v:= .agg #[.slice A3 rs.length c3]) (by simp [results,Tryz.results231,go_sem,World.cell?_alloc_lt,g0,g1,d0]) rfl ?_;have hh:=Zs (heap_alloc_new w (.cells #[.slice none 0 0] 211)) hb3;have hb4:∀(w3:World) o1 o2,Below w3.heap.size w3 ((w3.alloc o1).alloc o2):=fun w3 o1 o2=>(((Below.refl _ w3).alloc (Nat.le_refl _) _).alloc (by simp) _)
 have h5:TbR (w3.setCell ⟨w.heap.size,0,none⟩ (.slice A3 rs.length c3)) (w3.setCell ⟨w.heap.size,0,none⟩ (.slice A3 rs.length c3)).heap.size A3 rs:=(h3.set1 hh (by decide) _).more (by simp);exact HP.out A3 c3 rs _ h1 h2 ((h5.below (hb4 _ _ _)).more (by simp only [World.size_alloc];omega)) h4 ((HB3.out.setCell (Nat.le_refl _) _).trans ((hb4 _ _ _).mono (by simp;omega)))
theorem Zfe {l:List Pce} {M:List Pr} (hm:Za1 [] l 0= .inl M)(hl:l.length≤4096)(hok:∀p∈l,Zbt p∧p.2.2.2.1.size≤1000000)(T:TypeId)(w:World)(hT:Zj w):
 Calls Tryz.prog 231 #[.slice (some ⟨w.heap.size,0,none⟩) l.length l.length] (w.alloc (.cells (l.flatMap pV).toArray T)) (ZaI M (w.alloc (.cells (l.flatMap pV).toArray T))):=by
 have h:=ZpB l (some ⟨w.heap.size,0,none⟩) l.length hl hok _ (ZN hT (.cells (l.flatMap pV).toArray T)) ((Zs4 w T l).more (by simp));unfold mdL at h;rw [hm] at h;exact h
theorem ZjM (w:World):Calls Tryz.prog 298 #[] w fun e w'=>e= .returned (.agg #[.int .i64 0,.int .i32 0,.int .i64 128,.string ⟨#[]⟩])∧Below w.heap.size w w':=by
 go_enter Tryz.func298,Tryz.ntmps298
 go_wp2_with (go_at_call 232;refine(Zb9 0 0 128 _).mono ?_;rintro e w1 ⟨rfl,hb1⟩;obtain⟨⟨b0,b1,b2,b3⟩,f0,f1,f2,f3⟩:=bx4 hb1;have HB1:=Lib.hid (Zf hb1);clear hb1)
 refine bodyPost_ret (v:= .agg #[.int .i64 0,.int .i32 0,.int .i64 128,.string ⟨#[]⟩]) (by simp [results,Tryz.results298,go_sem,b0,b1,b2,b3]) rfl ⟨rfl,?_⟩;exact(((HB1.out.setCell (Nat.le_refl _) _).setCell (Nat.le_refl _) _).setCell (Nat.le_refl _) _).setCell (Nat.le_refl _) _
def eqB:List UInt8→List UInt8→Bool
 |[],[]=>true
 |a::l,b::r=>Nat.beq a.toNat b.toNat&&eqB l r
 |_,_=>false
theorem ZkJ:∀(l r:List UInt8),eqB l r=true→l=r
 |[],[],_=>rfl
 |a::l,b::r,h=>by
  simp only [eqB,Bool.and_eq_true] at h;rw [ZkJ l r h.2,UInt8.toNat_inj.1 (Nat.eq_of_beq_eq_true h.1)]
 |[],_::_,h=>by simp [eqB] at h
 |_::_,[],h=>by simp [eqB] at h
def lB (l:List UInt8):ByteArray:=⟨l.toArray⟩
theorem Zd1 (l:List UInt8)(d:Array UInt8)(h:eqB d.toList l=true):ByteArray.mk d=lB l:=by
 have:=ZkJ _ _ h;unfold lB;rw [←this]
theorem ZgL {l:List UInt8} {ps:List Int} (h:ZV l=ps∧ZaQ l=true)(hl:l.length≤100000)(w:World):
 Calls Tryz.prog 300 #[.string (lB l)] w fun e w'=>e= .returned (.string (tB ps))∧Below w.heap.size w w':=by
 have h1:=ZpN (lB l) (show(lB l).size≤100000 from hl) (by show ZaQ l=true;exact h.2) w;rw [show ZV (lB l).data.toList=ps from h.1] at h1;exact h1
theorem Ziz {w w3:World} {A:Option Addr} {c:Nat} {rs:List (Rw×Sl)} (h:TbR w3 w3.heap.size A rs)(hb:Below (w.alloc (.cells #[.slice none 0 0] 211)).heap.size (w.alloc (.cells #[.slice none 0 0] 211)) w3):
 TbR (w3.setCell ⟨w.heap.size,0,none⟩ (.slice A rs.length c)) (w3.setCell ⟨w.heap.size,0,none⟩ (.slice A rs.length c)).heap.size A rs∧Below w.heap.size w (w3.setCell ⟨w.heap.size,0,none⟩ (.slice A rs.length c)):=
 ⟨(h.set1 (Zs (heap_alloc_new w (.cells #[.slice none 0 0] 211)) hb) (by decide) _).more (by simp),(Zf hb).setCell (Nat.le_refl _) _⟩
theorem ZjN (w:World)(hT:Zj w):Calls Tryz.prog 233 #[] w (ZaI (Zi 1) w):=by
 have HP:Hid (∀A c rs w',rs.length≤c→rs.length≤4096→TbR w' w'.heap.size A rs→Zq rs=Zi 1→Below w.heap.size w w'→ZaI (Zi 1) w (.returned (.agg #[.slice A rs.length c])) w'):=Lib.hid fun A c rs w' h1 h2 h3 h4 hb=>⟨A,c,rs,rfl,h1,h2,h3,h4,hb⟩
 generalize ZaI (Zi 1) w=P at*;have hsg:=fun W=>ZgL koi_sg (by decide) W;have htb:=fun W h=>Zfe ZtD (by decide) ZtC 266 W h;rw [show(rusP.flatMap pV).toArray=#[.int .i64 0,.int .i32 0,.int .i64 128,.string ⟨#[]⟩,.int .i64 128,.int .i32 0,.int .i64 0,.string (tB Za5)] from rfl,show rusP.length=2 from rfl] at htb;unfold ZaI at htb;refine calls_of_wp Tryz.func233 rfl ?_;rw [Zd1 koiB]
 rotate_left
 kernel_rfl
 generalize lB koiB=b1 at*;generalize tB Za5=b2 at*;simp only [Tryz.ntmps233,List.size_toArray,List.length_nil,Nat.reduceSub,Array.replicate_succ,Array.replicate_zero,List.push_toArray,List.append_toArray,List.nil_append,List.cons_append];go_wp2_with (first
  |(go_at_call 298;refine(ZjM _).mono ?_;rintro e w1 ⟨rfl,hb1⟩;have HB1:=Lib.hid hb1;have hT1:=Zaz (ZN hT _) hb1 (Nat.le_refl _))
  |(go_at_call 300;refine(hsg _).mono ?_;rintro e w2 ⟨rfl,hb2⟩;have HB2:=Lib.hid (HB1.out.trans (hb2.mono HB1.out.size));have hT2:=Zaz hT1 hb2 (Nat.le_refl _))
  |(go_at_call 299;refine(Zgz 128 _ _).mono ?_;rintro e w3 ⟨rfl,hb3⟩;have HB3:=Lib.hid (HB2.out.trans (hb3.mono HB2.out.size));have hT3:=Zaz hT2 hb3 (Nat.le_refl _))
  |(go_at_call 231;refine(htb _ hT3).mono ?_;rintro e w4 ⟨A,c,rs,rfl,h1,h2,h3,h4,hb4⟩;have HB4:=Lib.hid (HB3.out.trans ((Zf hb4).mono HB3.out.size));have H3:=Lib.hid h3;have H4:=Lib.hid h4;clear h3 h4 hb1 hb2 hb3 hb4 hT1 hT2 hT3;obtain⟨b0,f0,_⟩:=bx HB4.out;have d0:=b0 0;have d1:=f0 0;clear b0 f0))
 obtain⟨g1,g2⟩:=Ziz (c:=c) H3.out HB4.out;refine bodyPost_ret (v:= .agg #[.slice A rs.length c]) (by simp [results,Tryz.results233,go_sem,d0]) rfl ?_;exact HP.out A c rs _ h1 h2 g1 H4.out g2
theorem ZlA:∀rs:List (Rw×Sl),(∀x∈rs,1≤x.1.2.1)→rs.length≤szR rs
 |[],_=>by simp
 |x::rs,h=>by
  have h1:=ZlA rs (fun y hy=>h y (List.mem_cons_of_mem _ hy));have h2:=h x (List.mem_cons_self ..);unfold szR at*;simp only [List.map_cons,List.sum_cons,List.length_cons];omega
theorem tb_len {w:World} {B:Nat} {A:Option Addr} {rs:List (Rw×Sl)} (h:TbR w B A rs):rs.length≤(Zq rs).length:=by
 have h1:=ZlA rs (fun x hx=>(h.2.1 x hx).1.1);have h2:=Zf9 rs;unfold Zq;omega
theorem Zbn {w0 W W':World} (h:Hid (Below w0.heap.size w0 W∧Zj W))(hb:Below W.heap.size W W'):Hid (Below w0.heap.size w0 W'∧Zj W'):=
 Lib.hid ⟨h.out.1.trans (hb.mono h.out.1.size),Zaz h.out.2 hb (Nat.le_refl _)⟩
theorem Zpv (w:World)(hT:Zj w):Calls Tryz.prog 235 #[] w (ZaI (Zi 3) w):=by
 have HP:Hid (∀A c rs w',rs.length≤c→rs.length≤4096→TbR w' w'.heap.size A rs→Zq rs=Zi 3→Below w.heap.size w w'→ZaI (Zi 3) w (.returned (.agg #[.slice A rs.length c])) w'):=Lib.hid fun A c rs w' h1 h2 h3 h4 hb=>⟨A,c,rs,rfl,h1,h2,h3,h4,hb⟩
 generalize ZaI (Zi 3) w=P at*;have hs1:=fun W=>ZgL b0_sg (by decide) W;have hs2:=fun W=>ZgL f0_sg (by decide) W;have htb:=fun W h=>Zfe Zqq (by decide) Zqp 266 W h;rw [show(altP.flatMap pV).toArray=#[.int .i64 0,.int .i32 0,.int .i64 128,.string ⟨#[]⟩,.int .i64 128,.int .i32 1040,.int .i64 48,.string ⟨#[]⟩,.int .i64 176,.int .i32 0,.int .i64 0,.string (tB Zbd),.int .i64 224,.int .i32 1088,.int .i64 16,.string ⟨#[]⟩,.int .i64 240,.int .i32 0,.int .i64 0,.string (tB Zbi)] from rfl,show altP.length=5 from rfl] at htb;unfold ZaI at htb;refine calls_of_wp Tryz.func235 rfl ?_;rw [Zd1 b0B]
 rotate_left
 kernel_rfl
 rw [Zd1 f0B]
 rotate_left
 kernel_rfl
 generalize lB b0B=b1 at*;generalize lB f0B=b2 at*;generalize tB Zbd=b3 at*;generalize tB Zbi=b4 at*;simp only [Tryz.ntmps235,List.size_toArray,List.length_nil,Nat.reduceSub,Array.replicate_succ,Array.replicate_zero,List.push_toArray,List.append_toArray,List.nil_append,List.cons_append];have hP0:Hid (Below (w.alloc (.cells #[.slice none 0 0] 211)).heap.size (w.alloc (.cells #[.slice none 0 0] 211)) (w.alloc (.cells #[.slice none 0 0] 211))∧Zj (w.alloc (.cells #[.slice none 0 0] 211))):=Lib.hid ⟨Below.refl _ _,ZN hT _⟩;go_wp2_with (first
  |(go_at_call 298;refine(ZjM _).mono ?_;rintro e w1 ⟨rfl,hb1⟩;have G1:=Zbn hP0 hb1)
  |(go_at_call 232;first
   |((with_reducible refine(Zb9 128 1040 48 _).mono ?_);rintro e w2 ⟨rfl,hb2⟩;have G2:=Zbn G1 hb2)
   |((with_reducible refine(Zb9 224 1088 16 _).mono ?_);rintro e w5 ⟨rfl,hb5⟩;have G5:=Zbn G4 hb5))
  |(go_at_call 300;first
   |((with_reducible refine(hs1 _).mono ?_);rintro e w3 ⟨rfl,hb3⟩;have G3:=Zbn G2 hb3)
   |((with_reducible refine(hs2 _).mono ?_);rintro e w6 ⟨rfl,hb6⟩;have G6:=Zbn G5 hb6))
  |(go_at_call 299;first
   |((with_reducible refine(Zgz 176 b3 _).mono ?_);rintro e w4 ⟨rfl,hb4⟩;have G4:=Zbn G3 hb4)
   |((with_reducible refine(Zgz 240 _ _).mono ?_);rintro e w7 ⟨rfl,hb7⟩;have G7:=Zbn G6 hb7))
  |(go_at_call 231;refine(htb _ G7.out.2).mono ?_;rintro e w8 ⟨A,c,rs,rfl,h1,h2,h3,h4,hb8⟩;have HB8:=Lib.hid (G7.out.1.trans ((Zf hb8).mono G7.out.1.size));have H3:=Lib.hid h3;have H4:=Lib.hid h4;clear h3 h4 hb8;obtain⟨b0,f0,_⟩:=bx HB8.out;have d0:=b0 0;have d1:=f0 0;clear b0 f0))
 obtain⟨g1,g2⟩:=Ziz (c:=c) H3.out HB8.out;refine bodyPost_ret (v:= .agg #[.slice A rs.length c]) (by simp [results,Tryz.results235,go_sem,d0]) rfl ?_;exact HP.out A c rs _ h1 h2 g1 H4.out g2
theorem ZpE (w:World)(hT:Zj w):Calls Tryz.prog 234 #[] w (ZaI (Zi 2) w):=by
 have HP:Hid (∀A c rs w',rs.length≤c→rs.length≤4096→TbR w' w'.heap.size A rs→Zq rs=Zi 2→Below w.heap.size w w'→ZaI (Zi 2) w (.returned (.agg #[.slice A rs.length c])) w'):=Lib.hid fun A c rs w' h1 h2 h3 h4 hb=>⟨A,c,rs,rfl,h1,h2,h3,h4,hb⟩
 generalize ZaI (Zi 2) w=P at*;have htb:=fun W h=>Zfe ZuK (by decide) ZuJ 266 W h;rw [show(ukrP.flatMap pV).toArray=#[.int .i64 164,.int .i32 1108,.int .i64 1,.string ⟨#[]⟩,.int .i64 166,.int .i32 1110,.int .i64 2,.string ⟨#[]⟩,.int .i64 173,.int .i32 1169,.int .i64 1,.string ⟨#[]⟩,.int .i64 180,.int .i32 1028,.int .i64 1,.string ⟨#[]⟩,.int .i64 182,.int .i32 1030,.int .i64 2,.string ⟨#[]⟩,.int .i64 189,.int .i32 1168,.int .i64 1,.string ⟨#[]⟩] from rfl,show ukrP.length=6 from rfl] at htb;unfold ZaI at htb;have hP0:Hid (Below (w.alloc (.cells #[.slice none 0 0] 211)).heap.size (w.alloc (.cells #[.slice none 0 0] 211)) (w.alloc (.cells #[.slice none 0 0] 211))∧Zj (w.alloc (.cells #[.slice none 0 0] 211))):=Lib.hid ⟨Below.refl _ _,ZN hT _⟩;go_enter Tryz.func234,Tryz.ntmps234
 go_wp2_with (first
  |(go_at_call 232;first
   |((with_reducible refine(Zb9 164 1108 1 _).mono ?_);rintro e x0 ⟨rfl,hb1⟩;have G0:=Zbn hP0 hb1;clear hb1)
   |((with_reducible refine(Zb9 166 1110 2 _).mono ?_);rintro e x1 ⟨rfl,hb1⟩;have G1:=Zbn G0 hb1;clear hb1)
   |((with_reducible refine(Zb9 173 1169 1 _).mono ?_);rintro e x2 ⟨rfl,hb1⟩;have G2:=Zbn G1 hb1;clear hb1)
   |((with_reducible refine(Zb9 180 1028 1 _).mono ?_);rintro e x3 ⟨rfl,hb1⟩;have G3:=Zbn G2 hb1;clear hb1)
   |((with_reducible refine(Zb9 182 1030 2 _).mono ?_);rintro e x4 ⟨rfl,hb1⟩;have G4:=Zbn G3 hb1;clear hb1)
   |((with_reducible refine(Zb9 189 1168 1 _).mono ?_);rintro e x5 ⟨rfl,hb1⟩;have G5:=Zbn G4 hb1;clear hb1))
  |(go_at_call 231;refine(htb _ G5.out.2).mono ?_;rintro e w8 ⟨A,c,rs,rfl,h1,h2,h3,h4,hb8⟩;have HB8:=Lib.hid (G5.out.1.trans ((Zf hb8).mono G5.out.1.size));have H3:=Lib.hid h3;have H4:=Lib.hid h4;clear h3 h4 hb8;obtain⟨b0,f0,hlt8⟩:=bx HB8.out;have d0:=b0 0;have d1:=f0 0;clear b0 f0))
 have hbx:=((Below.refl w8.heap.size w8).alloc (Nat.le_refl _) (.cells #[.slice A rs.length c] 211)).drew;have hcx:(w8.alloc (.cells #[.slice A rs.length c] 211)).drew.cell? ⟨w8.heap.size,0,none⟩=some (.slice A rs.length c):=cell_one_new w8 _ _ 0 _ rfl;have hT8:Zj w8:=Zaz (ZN hT _) HB8.out (Nat.le_refl _);have hTx:=Zaz hT8 hbx (Nat.le_refl _);have hHx:=(H3.out.below hbx).more hbx.size;have hBx:=Lib.hid (HB8.out.trans (hbx.mono HB8.out.size));have hzx:w8.heap.size<(w8.alloc (.cells #[.slice A rs.length c] 211)).drew.heap.size:=by simp
 refine ZiV (fun W=>W.cell? ⟨w8.heap.size,0,none⟩=some (.slice A rs.length c)) [(0,true),(1,false),(2,false),(3,false)] (by kernel_rfl) (by kernel_rfl) (by kernel_rfl) (Nat.le_of_ble_eq_true rfl) (fun _ _ d _ _ h=>by cases d<;>exact h) hcx ?_;generalize (w8.alloc (.cells #[.slice A rs.length c] 211)).drew=W0 at*;refine Zb1 rfl (by rfl) (.agg #[.slice A rs.length c]) (fun W hSw=>by go_simp) ?_
 try simp only [Act.put,List.setIfInBounds_toArray,List.set_cons_zero,List.set_cons_succ]
 refine Zds rfl (by rfl) (fun K hK=> ?_)
 go_simp
 refine(ZjN W0 hTx).mono ?_;rintro e W1 ⟨A2,c2,rs2,rfl,q1,q2,q3,q4,hb9⟩;have hS1:=(hb9.cell (p:=⟨w8.heap.size,0,none⟩) hzx).trans hcx;have hH1:=(hHx.below hb9).more hb9.size;have HB9:=Lib.hid (hBx.out.trans (hb9.mono hBx.out.size));have HQ4:=Lib.hid q4;have H1z:=hb9.size;clear hcx hHx hTx hbx hT8 hb9 q4;go_wp2_with fail
 refine hK.out _ _ hS1 ?_;clear hK K
 try simp only [Act.put,List.setIfInBounds_toArray,List.set_cons_zero,List.set_cons_succ]
 refine Zds rfl (by rfl) (fun K hK=> ?_)
 go_simp
 refine(ZoO A A2 c c2 rs rs2 (by omega) (by omega) W1 hH1 q3).mono ?_;rintro e W2 ⟨A3,c3,rs3,rfl,r1,r2,r3,r4,hb10⟩;have hS2:=(hb10.cell (p:=⟨w8.heap.size,0,none⟩) (Nat.lt_of_lt_of_le hzx H1z)).trans hS1;have HB10:=Lib.hid (HB9.out.trans (hb10.mono HB9.out.size));have HR4:=Lib.hid (r4.trans (by rw [H4.out,HQ4.out,ZuL]));clear hH1 q3 hS1 hb10 r4;obtain⟨b0,f0,hlt0⟩:=bx HB10.out;have e0:=b0 0;have e1:=f0 0;clear b0 f0;go_wp2_with fail
 refine hK.out _ _ hS2 ?_;clear hK K
 try simp only [Act.put,List.setIfInBounds_toArray,List.set_cons_zero,List.set_cons_succ]
 refine Zds rfl (by rfl) (fun K hK=> ?_);have hS3:(W2.setCell ⟨w.heap.size,0,none⟩ (.slice A3 rs3.length c3)).cell? ⟨w8.heap.size,0,none⟩=some (.slice A rs.length c):=(ZbJ (by show w8.heap.size≠w.heap.size;omega) _).trans hS2;go_wp2_with fail
 refine hK.out _ _ hS3 ?_;clear hK K
 try simp only [Act.put,List.setIfInBounds_toArray,List.set_cons_zero,List.set_cons_succ]
 refine ZhN ?_;go_wp2_with fail
 obtain⟨g1,g2⟩:=Ziz (c:=c3) r3 HB10.out;refine bodyPost_ret (v:= .agg #[.slice A3 rs3.length c3]) (by simp [results,Tryz.results234,go_sem,e0]) rfl ?_;exact HP.out A3 c3 rs3 _ r1 (by have:=tb_len r3;rw [HR4.out] at this;exact Nat.le_trans this (by decide)) g1 HR4.out g2
def ZaY (c:Nat)(w0:World)(e:Ending)(w':World):Prop:=∃A cp rs,e= .returned (.tuple #[.agg #[.slice A rs.length cp,.int .i64 c],.bool true])∧rs.length≤cp∧rs.length≤4096∧TbR w' w'.heap.size A rs∧Zq rs=Zi c∧Below w0.heap.size w0 w'
theorem TbR.setS {w:World} {B g j0:Nat} {A:Option Addr} {rs:List (Rw×Sl)} {T:TypeId} {cs:Array Value} (h:TbR w B A rs)(hg:w.heap[g]? =some (.cells cs T (0,0)))(hs:cs.size≤3)(hT:T≠21)(v:Value):TbR (w.setCell ⟨g,j0,none⟩ v) B A rs:=by
 refine⟨⟨⟨h.1.1.1,fun h0=> ?_⟩,h.1.2⟩,fun x hx=>⟨(h.2.1 x hx).1,(h.2.1 x hx).2.keep fun k _ ⟨cs',fr,hh⟩=>heap_set (by rintro rfl;rw [hh] at hg;injection hg with hg;injection hg with _ hg _;exact hT hg.symm) v⟩,h.2.2⟩;obtain⟨ad,hA,hb,hc⟩:=h.1.1.2 h0;have hsp:=h.1.2 ad hA;refine⟨ad,hA,hb,fun j u hu=> ?_⟩;have hbk:ad.block≠g:=by
  rintro rfl;cases rs with
  |nil=>simp at h0
  |cons x rs=>
   have:=hc 3 (slV x.2) rfl;rw [Zip hsp hg,Array.getElem?_eq_none (by omega)] at this;cases this
 rw [ZbJ (by rw [ZaE];exact hbk)];exact hc j u hu
theorem ZrO {w:World} {g:Nat} {a b:Value} {T:TypeId} (h:w.heap[g]? =some (.cells #[a,b] T (0,0)))(v:Value):(w.setCell ⟨g,0,none⟩ v).heap[g]? =some (.cells #[v,b] T (0,0)):=by
 rw [heap_setCell_same _ _ _ _ _ _ h];rfl
theorem Zga {w w3:World} {A:Option Addr} {c:Nat} {k:Int} {rs:List (Rw×Sl)} (h:TbR w3 w3.heap.size A rs)(hb:Below (w.alloc (.cells #[.slice none 0 0,.int .i64 0] 213)).heap.size (w.alloc (.cells #[.slice none 0 0,.int .i64 0] 213)) w3):
 TbR ((w3.setCell ⟨w.heap.size,0,none⟩ (.slice A rs.length c)).setCell ⟨w.heap.size,1,none⟩ (.int .i64 k)) ((w3.setCell ⟨w.heap.size,0,none⟩ (.slice A rs.length c)).setCell ⟨w.heap.size,1,none⟩ (.int .i64 k)).heap.size A rs∧Below w.heap.size w ((w3.setCell ⟨w.heap.size,0,none⟩ (.slice A rs.length c)).setCell ⟨w.heap.size,1,none⟩ (.int .i64 k)):=by
 have hg:=Zs (heap_alloc_new w (.cells #[.slice none 0 0,.int .i64 0] 213)) hb;exact⟨((h.setS hg (by decide) (by decide) _).setS (ZrO hg _) (by simp) (by decide) _).more (by simp),((Zf hb).setCell (Nat.le_refl _) _).setCell (Nat.le_refl _) _⟩
theorem SOf_1 (w:World)(hT:Zj w):Calls Tryz.prog 155 #[.int .i64 1] w (ZaY 1 w):=by
 have HP:Hid (∀A c rs w',rs.length≤c→rs.length≤4096→TbR w' w'.heap.size A rs→Zq rs=Zi 1→Below w.heap.size w w'→ZaY 1 w (.returned (.tuple #[.agg #[.slice A rs.length c,.int .i64 1],.bool true])) w'):=Lib.hid fun A c rs w' h1 h2 h3 h4 hb=>⟨A,c,rs,rfl,h1,h2,h3,h4,hb⟩
 generalize ZaY 1 w=P at*;go_enter Tryz.func155,Tryz.ntmps155
 go_wp2_with (go_at_call 233;refine(ZjN _ (ZN hT _)).mono ?_;rintro e w4 ⟨A,c,rs,rfl,h1,h2,h3,h4,hb4⟩;have HB4:=Lib.hid hb4;have H3:=Lib.hid h3;have H4:=Lib.hid h4;clear h3 h4 hb4;obtain⟨b0,f0,_⟩:=bx HB4.out;have d0:=b0 0;have d1:=f0 0;have d2:=b0 1;have d3:=f0 1;clear b0 f0)
 obtain⟨g1,g2⟩:=Zga (c:=c) (k:=1) H3.out HB4.out;refine bodyPost_ret (v:= .tuple #[.agg #[.slice A rs.length c,.int .i64 1],.bool true]) (by simp [results,Tryz.results155,go_sem,d0,d2]) rfl ?_;exact HP.out A c rs _ h1 h2 g1 H4.out g2
theorem SOf_2 (w:World)(hT:Zj w):Calls Tryz.prog 155 #[.int .i64 2] w (ZaY 2 w):=by
 have HP:Hid (∀A c rs w',rs.length≤c→rs.length≤4096→TbR w' w'.heap.size A rs→Zq rs=Zi 2→Below w.heap.size w w'→ZaY 2 w (.returned (.tuple #[.agg #[.slice A rs.length c,.int .i64 2],.bool true])) w'):=Lib.hid fun A c rs w' h1 h2 h3 h4 hb=>⟨A,c,rs,rfl,h1,h2,h3,h4,hb⟩
 generalize ZaY 2 w=P at*;go_enter Tryz.func155,Tryz.ntmps155
 go_wp2_with (go_at_call 234;refine(ZpE _ (ZN hT _)).mono ?_;rintro e w4 ⟨A,c,rs,rfl,h1,h2,h3,h4,hb4⟩;have HB4:=Lib.hid hb4;have H3:=Lib.hid h3;have H4:=Lib.hid h4;clear h3 h4 hb4;obtain⟨b0,f0,_⟩:=bx HB4.out;have d0:=b0 0;have d1:=f0 0;have d2:=b0 1;have d3:=f0 1;clear b0 f0)
 obtain⟨g1,g2⟩:=Zga (c:=c) (k:=2) H3.out HB4.out;refine bodyPost_ret (v:= .tuple #[.agg #[.slice A rs.length c,.int .i64 2],.bool true]) (by simp [results,Tryz.results155,go_sem,d0,d2]) rfl ?_;exact HP.out A c rs _ h1 h2 g1 H4.out g2
theorem SOf_3 (w:World)(hT:Zj w):Calls Tryz.prog 155 #[.int .i64 3] w (ZaY 3 w):=by
 have HP:Hid (∀A c rs w',rs.length≤c→rs.length≤4096→TbR w' w'.heap.size A rs→Zq rs=Zi 3→Below w.heap.size w w'→ZaY 3 w (.returned (.tuple #[.agg #[.slice A rs.length c,.int .i64 3],.bool true])) w'):=Lib.hid fun A c rs w' h1 h2 h3 h4 hb=>⟨A,c,rs,rfl,h1,h2,h3,h4,hb⟩
 generalize ZaY 3 w=P at*;go_enter Tryz.func155,Tryz.ntmps155
 go_wp2_with (go_at_call 235;refine(Zpv _ (ZN hT _)).mono ?_;rintro e w4 ⟨A,c,rs,rfl,h1,h2,h3,h4,hb4⟩;have HB4:=Lib.hid hb4;have H3:=Lib.hid h3;have H4:=Lib.hid h4;clear h3 h4 hb4;obtain⟨b0,f0,_⟩:=bx HB4.out;have d0:=b0 0;have d1:=f0 0;have d2:=b0 1;have d3:=f0 1;clear b0 f0)
 obtain⟨g1,g2⟩:=Zga (c:=c) (k:=3) H3.out HB4.out;refine bodyPost_ret (v:= .tuple #[.agg #[.slice A rs.length c,.int .i64 3],.bool true]) (by simp [results,Tryz.results155,go_sem,d0,d2]) rfl ?_;exact HP.out A c rs _ h1 h2 g1 H4.out g2
theorem SOf_0 (w:World)(hT:Zj w):Calls Tryz.prog 155 #[.int .i64 0] w (ZaY 0 w):=by
 have HP:Hid (∀A c rs w',rs.length≤c→rs.length≤4096→TbR w' w'.heap.size A rs→Zq rs=Zi 0→Below w.heap.size w w'→ZaY 0 w (.returned (.tuple #[.agg #[.slice A rs.length c,.int .i64 0],.bool true])) w'):=Lib.hid fun A c rs w' h1 h2 h3 h4 hb=>⟨A,c,rs,rfl,h1,h2,h3,h4,hb⟩
 generalize ZaY 0 w=P at*;have htb:=fun W h=>Zfe Zr3 (by decide) Zr2 266 W h;rw [show(latP.flatMap pV).toArray=#[.int .i64 0,.int .i32 0,.int .i64 256,.string ⟨#[]⟩] from rfl,show latP.length=1 from rfl] at htb;unfold ZaI at htb;have hP0:Hid (Below (w.alloc (.cells #[.slice none 0 0,.int .i64 0] 213)).heap.size (w.alloc (.cells #[.slice none 0 0,.int .i64 0] 213)) (w.alloc (.cells #[.slice none 0 0,.int .i64 0] 213))∧Zj (w.alloc (.cells #[.slice none 0 0,.int .i64 0] 213))):=Lib.hid ⟨Below.refl _ _,ZN hT _⟩;go_enter Tryz.func155,Tryz.ntmps155
 go_wp2_with (first
  |(go_at_call 232;(with_reducible refine(Zb9 0 0 256 _).mono ?_);rintro e w1 ⟨rfl,hb1⟩;have G1:=Zbn hP0 hb1;clear hb1)
  |(go_at_call 231;refine(htb _ G1.out.2).mono ?_;rintro e w4 ⟨A,c,rs,rfl,h1,h2,h3,h4,hb4⟩;have HB4:=Lib.hid (G1.out.1.trans ((Zf hb4).mono G1.out.1.size));have H3:=Lib.hid h3;have H4:=Lib.hid h4;clear h3 h4 hb4;obtain⟨b0,f0,_⟩:=bx HB4.out;have d0:=b0 0;have d1:=f0 0;have d2:=b0 1;have d3:=f0 1;clear b0 f0))
 obtain⟨g1,g2⟩:=Zga (c:=c) (k:=0) H3.out HB4.out;refine bodyPost_ret (v:= .tuple #[.agg #[.slice A rs.length c,.int .i64 0],.bool true]) (by simp [results,Tryz.results155,go_sem,d0,d2]) rfl ?_;exact HP.out A c rs _ h1 h2 g1 H4.out g2
theorem ZpA (c:Nat)(hc:c≤3)(w:World)(hT:Zj w):Calls Tryz.prog 155 #[.int .i64 c] w (ZaY c w):=by
 obtain rfl|rfl|rfl|rfl:c=0∨c=1∨c=2∨c=3:=by omega
 · exact SOf_0 w hT
 · exact SOf_1 w hT
 · exact SOf_2 w hT
 · exact SOf_3 w hT
end Go.Proofs.YtlfinljfghhpdaaGreatDoor
