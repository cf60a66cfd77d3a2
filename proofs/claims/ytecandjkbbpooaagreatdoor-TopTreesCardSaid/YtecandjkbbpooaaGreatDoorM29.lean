/- Lemmas for a statement on the tops; conditions: as each says. -/
import Derived.Lib.EndianBits
import Derived.Test.YtecandjkbbpooaaGreatDoorM28
set_option linter.unusedVariables false
set_option linter.unusedSimpArgs false
set_option maxRecDepth 100000
set_option maxHeartbeats 4000000
namespace Go.Proofs.YtecandjkbbpooaaGreatDoor
open Go Go.RowKit
theorem ZlZ (w:World)(T:TypeId)(l:List Pce):ZcM (w.alloc (.cells (l.flatMap pV).toArray T)) (w.heap.size+1) (some ⟨w.heap.size,0,none⟩) l:=by
 refine⟨Zfa pV ZlT l,fun _=>⟨_,rfl,by simp,fun j u hu=> ?_⟩⟩;have hadd:(⟨w.heap.size,0,none⟩:Addr).add j=⟨w.heap.size,j,none⟩:=by unfold Addr.add;split<;>simp_all
 rw [hadd,cell_of_row _ w.heap.size j _ T (0,0) (heap_alloc_new w _)];simpa using hu
theorem bx22 {w wr:World} {T1 T2:TypeId} {a b c:Value} (h:Below ((w.alloc (.cells #[a] T1)).alloc (.cells #[b,c] T2)).heap.size ((w.alloc (.cells #[a] T1)).alloc (.cells #[b,c] T2)) wr):
 wr.cell? ⟨w.heap.size,0,none⟩=some a∧wr.cell? ⟨w.heap.size+1,0,none⟩=some b∧wr.cell? ⟨w.heap.size+1,1,none⟩=some c∧w.heap.size+1<wr.heap.size:=by
 obtain⟨b1,_,hs⟩:=bx h;obtain⟨a1,_,_⟩:=bx (Ze h);simp only [World.size_alloc] at b1 hs;exact⟨a1 0,b1 0,b1 1,hs⟩
def awL:List Pce:=[(0,65,3,⟨#[]⟩,some []),(10,0,0,⟨#[120,121]⟩,some [120,121])]
def awU:List Pce:=[(1,65,1,⟨#[]⟩,some [])]
theorem awL_ok:∀p∈awL,Za6 p∧p.2.2.2.1.size≤1000000:=by
 intro p hp;simp only [awL,List.mem_cons,List.not_mem_nil,or_false] at hp;rcases hp with rfl|rfl
 · exact⟨⟨⟨rfl,by simp⟩,by decide,by decide,by decide⟩,by decide⟩
 · exact⟨⟨⟨rfl,by decide⟩,by decide,by decide,by decide⟩,by decide⟩
theorem awU_ok:∀p∈awU,Za6 p∧p.2.2.2.1.size≤1000000:=by
 intro p hp;simp only [awU,List.mem_cons,List.not_mem_nil,or_false] at hp;rcases hp with rfl
 exact⟨⟨⟨rfl,by simp⟩,by decide,by decide,by decide⟩,by decide⟩
theorem Zpv:ZaR [] awL 0= .inl [(0,65),(1,66),(2,67),(10,120),(11,121)]:=by decide
theorem Zps:ZaR [] awU 0= .inl [(1,65)]:=by decide
def Zjh (M:List Pr)(w0:World)(e:Ending)(w':World):Prop:=∃A c rs,e= .returned (.tuple #[.agg #[.slice A rs.length c],.agg #[.int .i64 0,.int .i64 0]])∧rs.length≤c∧rs.length≤4096∧TbR w' w'.heap.size A rs∧Zq rs=M∧Below w0.heap.size w0 w'
theorem Zji {l:List Pce} {M:List Pr} (hm:ZaR [] l 0= .inl M)(hl:l.length≤4096)(hok:∀p∈l,Za6 p∧p.2.2.2.1.size≤1000000)(T:TypeId)(w:World)(hT:Zk w):
 Calls Tryz.prog 264 #[.slice (some ⟨w.heap.size,0,none⟩) l.length l.length] (w.alloc (.cells (l.flatMap pV).toArray T)) (Zjh M (w.alloc (.cells (l.flatMap pV).toArray T))):=by
 refine(Zjj l _ _ hl hok _ (ZI hT _) ((ZlZ w T l).more (by simp))).mono ?_;rintro e w' ⟨A,c,rs,rfl,h1,h2,h3,h4,hb⟩;unfold ftE ftA mdL at*;rw [hm] at h4⊢;exact⟨A,c,rs,rfl,h1,h2,h3,h4,hb⟩
theorem tb_a2 {w:World} {A:Option Addr} {rs:List (Rw×Sl)} (h:TbR w w.heap.size A rs)(o1 o2:Obj):TbR ((w.alloc o1).alloc o2) ((w.alloc o1).alloc o2).heap.size A rs:=
 (h.below (((Below.refl _ w).alloc (Nat.le_refl _) _).alloc (by simp) _)).more (by simp;omega)
theorem Zhm {rs6 rs5 rs3:List (Rw×Sl)} (h:Zq rs6=Zdm (Zq rs5) (Zq rs3))(h5:Zq rs5=[(1,65)])(h3:Zq rs3=[(0,65),(1,66),(2,67),(10,120),(11,121)]):Zq rs6=[(0,65),(1,65),(2,67),(10,120),(11,121)]:=by
 rw [h,h5,h3];decide
theorem Zj0 {w6:World} {A:Option Addr} {c:Nat} {rs6 rs5:List (Rw×Sl)} (h:TbR w6 w6.heap.size A rs6)(hn:rs6.length≤rs5.length+1048576)(hn5:rs5.length≤4096){L:List Pr} (hL:Zq rs6=L)(p:Int)(v:Nat)(b:Bool)(hp: -2147483648≤p∧p<2147483648)
 (hv:(((L.find? fun x=>x.2==p).map (·.1)).getD 0,((L.find? fun x=>x.2==p).map (·.1)).isSome)=(v,b)) (W:World) (hb:Below w6.heap.size w6 W):
 Calls Tryz.prog 349 #[.agg #[.slice A rs6.length c],.int .i32 p] W fun e w'=>e= .returned (.tuple #[.int .i64 (v:Nat),.bool b])∧Below W.heap.size W w':=by
 have h1:=ZoG A c rs6 p hp (by omega) W ((h.below hb).more hb.size);rw [ZsO,show(rs6.map (·.1)).flatMap prs=L from hL] at h1;injection hv with h2 h3
 rw [h2,h3] at h1;exact h1
theorem aw_fwd {w6:World} {A:Option Addr} {c:Nat} {rs6 rs5:List (Rw×Sl)} (h:TbR w6 w6.heap.size A rs6)(hn:rs6.length≤rs5.length+1048576)(hn5:rs5.length≤4096)(hL:Zq rs6=[(0,65),(1,65),(2,67),(10,120),(11,121)])(W:World)(hb:Below w6.heap.size w6 W):
 Calls Tryz.prog 350 #[.agg #[.slice A rs6.length c],.int .i64 11] W fun e w'=>e= .returned (.tuple #[.int .i32 121,.bool true])∧Below W.heap.size W w':=by
 have h1:=ZnU A c rs6 11 (by omega) W ((h.below hb).more hb.size);unfold ZdD Zcg at h1;rw [show(rs6.map (·.1)).flatMap prs=_ from hL] at h1;exact h1
theorem Zpw {w6:World} {B:Nat} {A:Option Addr} {c:Nat} {rs3:List (Rw×Sl)} (h:TbR w6 B A rs3)(hL:Zq rs3=[(0,65),(1,66),(2,67),(10,120),(11,121)])(hn:rs3.length≤4096)(hB:B≤w6.heap.size)(W:World)(hb:Below w6.heap.size w6 W):
 Calls Tryz.prog 269 #[.agg #[.slice A rs3.length c]] W fun e w'=>e= .returned (.int .i64 5)∧Below W.heap.size W w':=by
 have h1:=ZjB A c rs3 (by omega) W (((h.more hB).below hb).more hb.size);rw [←Zft,show(rs3.map (·.1)).flatMap prs=_ from hL] at h1;exact h1
theorem Zpu {w6:World} {b3 b5:Nat} {t1:Value} (v:Value)(T:TypeId)(q0:w6.cell? ⟨b3,0,none⟩=some t1)(q1:w6.cell? ⟨b3+1,0,none⟩=some (.int .i64 0))(q2:w6.cell? ⟨b3+1,1,none⟩=some (.int .i64 0))(q4:w6.cell? ⟨b5+1,0,none⟩=some (.int .i64 0))(q5:w6.cell? ⟨b5+1,1,none⟩=some (.int .i64 0))(k1:b3<w6.heap.size)(k2:b3+1<w6.heap.size)(k3:b5+1<w6.heap.size)(W:World)(hb:Below (w6.alloc (.cells #[v] T)).heap.size (w6.alloc (.cells #[v] T)) W):
 W.cell? ⟨w6.heap.size,0,none⟩=some v∧W.cell? ⟨b3,0,none⟩=some t1∧W.cell? ⟨b3+1,0,none⟩=some (.int .i64 0)∧W.cell? ⟨b3+1,1,none⟩=some (.int .i64 0)∧W.cell? ⟨b5+1,0,none⟩=some (.int .i64 0)∧W.cell? ⟨b5+1,1,none⟩=some (.int .i64 0):=by
 obtain⟨h1,_,_⟩:=bx hb;have h2:=Ze hb;exact⟨h1 0,(h2.cell (p:=⟨b3,0,none⟩) k1).trans q0,(h2.cell (p:=⟨b3+1,0,none⟩) k2).trans q1,(h2.cell (p:=⟨b3+1,1,none⟩) k2).trans q2,(h2.cell (p:=⟨b5+1,0,none⟩) k3).trans q4,(h2.cell (p:=⟨b5+1,1,none⟩) k3).trans q5⟩
theorem Znk (w:World)(hT:Zk w):
 Calls Tryz.prog 328 #[] w fun e w'=>e= .returned (.bool true)∧Below w.heap.size w w':=by
 have hN1:=fun w hT=>Zji Zpv (by decide) awL_ok 255 w hT;have hN2:=fun w hT=>Zji Zps (by decide) awU_ok 255 w hT;unfold Zjh at hN1 hN2;have hl1:(awL.flatMap pV).toArray=#[.int .i64 0,.int .i32 65,.int .i64 3,.string ⟨#[]⟩,.int .i64 10,.int .i32 0,.int .i64 0,.string ⟨#[120,121]⟩]:=rfl;have hl2:(awU.flatMap pV).toArray=#[.int .i64 1,.int .i32 65,.int .i64 1,.string ⟨#[]⟩]:=rfl;rw [hl1,show awL.length=2 from rfl] at hN1;rw [hl2,show awU.length=1 from rfl] at hN2;clear hl1 hl2;have HP:Hid (∀w',Below w.heap.size w w'→(fun e w'=>e=Ending.returned (.bool true)∧Below w.heap.size w w') (.returned (.bool true)) w'):=Lib.hid fun w' hb=>⟨rfl,hb⟩
 generalize (fun(e:Ending) (w':World)=>e=Ending.returned (.bool true)∧Below w.heap.size w w')=P at*;go_enter Tryz.func328,Tryz.ntmps328
 go_wp2_with (first
  |(go_at_call 206;first
   |(refine(Zb1 0 65 3 _).mono ?_;rintro e w1 ⟨rfl,hb1⟩;have HB1:=Lib.hid hb1;have hT1:=Zaf hT hb1 (Nat.le_refl _))
   |(refine(Zb1 1 65 1 _).mono ?_;rintro e w4 ⟨rfl,hb4⟩;have HB4:=Lib.hid hb4;have hT4:=Zaf (ZI (ZI hT3 _) _) hb4 (Nat.le_refl _)))
  |(go_at_call 266;refine(ZfM 10 _ _).mono ?_;rintro e w2 ⟨rfl,hb2⟩;have HB2:=Lib.hid (HB1.out.trans (hb2.mono HB1.out.size));have hT2:=Zaf hT1 hb2 (Nat.le_refl _))
  |(go_at_call 264;first
   |(refine(hN1 _ hT2).mono ?_;rintro e w3 ⟨A3,c3,rs3,rfl,h13,h23,h33,h43,hb3⟩;have HB3:=Lib.hid (HB2.out.trans ((Ze hb3).mono HB2.out.size));have hT3:=Zaf (ZI hT2 _) hb3 (Nat.le_refl _);have H33:=Lib.hid h33;have H43:=Lib.hid h43;clear h33 h43 hN1 hT1 hT2 hb1 hb2 hb3)
   |(refine(hN2 _ hT4).mono ?_;rintro e w5 ⟨A5,c5,rs5,rfl,h15,h25,h35,h45,hb5⟩;have HB5:=Lib.hid (HB4.out.trans ((Ze hb5).mono HB4.out.size));have H35:=Lib.hid h35;have H45:=Lib.hid h45;clear h35 h45 hN2 hb5 hT3 hT4;obtain⟨p0,p1,p2,ps⟩:=bx22 HB5.out;have g1:w3.heap.size<w5.heap.size:=(by omega);have g2:w3.heap.size<w5.heap.size+1:=(by omega);have g3:w3.heap.size+1<w5.heap.size+1:=(by omega);have H3b:=Lib.hid ((H33.out.below (Zeh HB5.out)).more (show w3.heap.size≤w5.heap.size by omega))))
  |(go_at_call 268;refine(Zjo A5 A3 c5 c3 rs5 rs3 (by omega) (by omega) _ (tb_a2 H35.out _ _) (tb_a2 H3b.out _ _)).mono ?_;rintro e w6 ⟨A6,c6,rs6,rfl,h16,h26,h36,h46,hb6⟩;obtain⟨q3,q4,q5,qs⟩:=bx22 hb6;have hb56:=Zeh hb6;have q0:=(hb56.cell (p:=⟨w3.heap.size,0,none⟩) g1).trans p0;have q1:=(hb56.cell (p:=⟨w3.heap.size+1,0,none⟩) ps).trans p1;have q2:=(hb56.cell (p:=⟨w3.heap.size+1,1,none⟩) ps).trans p2;have HB6:=Lib.hid (hb56.mono (show w.heap.size≤w5.heap.size by have:=HB3.out.size;omega));have k1:w3.heap.size<w6.heap.size:=(by omega);have k2:w3.heap.size+1<w6.heap.size:=(by omega);have k3:w5.heap.size+1<w6.heap.size:=(by omega);have hR65:=Zj0 (A:=A6) (c:=c6) h36 h26 h25 (Zhm h46 H45.out H43.out) 65 0 true (by decide) rfl;have hR66:=Zj0 (A:=A6) (c:=c6) h36 h26 h25 (Zhm h46 H45.out H43.out) 66 0 false (by decide) rfl;have hF11:=aw_fwd (A:=A6) (c:=c6) h36 h26 h25 (Zhm h46 H45.out H43.out);have hS5:=Zpw (c:=c3) (H3b.out.below hb56) H43.out h23 (show w5.heap.size≤w6.heap.size by omega);have hK:=Zpu (.slice A6 rs6.length c6) 190 q0 q1 q2 q4 q5 k1 k2 k3;clear p0 p1 p2 q0 q1 q2 q3 q4 q5 hb6 h36 h46 g2 g3)
  |(go_at_call 349;first
   |(refine(hR65 _ ((Below.refl _ _).alloc (Nat.le_refl _) _)).mono ?_;rintro e w7 ⟨rfl,hb7⟩;have HB7:=Lib.hid hb7;clear hR65;obtain⟨a0,a1,a2,a3,a4,a5⟩:=hK _ HB7.out)
   |(refine(hR66 _ (Ze HB7.out)).mono ?_;rintro e w8 ⟨rfl,hb8⟩;have HB8:=Lib.hid (HB7.out.trans (hb8.mono HB7.out.size));clear hR66 a0 a1 a2 a3 a4 a5;obtain⟨a0,a1,a2,a3,a4,a5⟩:=hK _ HB8.out))
  |(go_at_call 350;refine(hF11 _ (Ze HB8.out)).mono ?_;rintro e w9 ⟨rfl,hb9⟩;have HB9:=Lib.hid (HB8.out.trans (hb9.mono HB8.out.size));clear hF11 a0 a1 a2 a3 a4 a5;obtain⟨a0,a1,a2,a3,a4,a5⟩:=hK _ HB9.out)
  |(go_at_call 7;first
   |(refine(Zco 0 0 w9).mono ?_;rintro e w10 ⟨rfl,hb10⟩;have HB10:=Lib.hid (HB9.out.trans (hb10.mono HB9.out.size));clear a0 a1 a2 a3 a4 a5;obtain⟨a0,a1,a2,a3,a4,a5⟩:=hK _ HB10.out)
   |(refine(Zco 0 0 w10).mono ?_;rintro e w11 ⟨rfl,hb11⟩;have HB11:=Lib.hid (HB10.out.trans (hb11.mono HB10.out.size));clear a0 a1 a2 a3 a4 a5;obtain⟨a0,a1,a2,a3,a4,a5⟩:=hK _ HB11.out))
  |(go_at_call 269;refine(hS5 _ (Ze HB11.out)).mono ?_;rintro e w12 ⟨rfl,hb12⟩;have HB12:=Lib.hid (HB11.out.trans (hb12.mono HB11.out.size))))
 have hz3:=HB3.out.size;exact HP.out _ (((HB3.out.trans ((Zeh HB5.out).mono hz3)).trans HB6.out).trans ((Ze HB12.out).mono (by omega)))
theorem Zrf {c:UInt8} (h:0≤Zb7 c):Lib.indexByte [48,49,50,51,52,53,54,55,56,57,65,66,67,68,69,70] c=Zb7 c:=by
 have h2:∀n:Fin 256,0≤Zb7 (UInt8.ofNat n.1)→Lib.indexByte [48,49,50,51,52,53,54,55,56,57,65,66,67,68,69,70] (UInt8.ofNat n.1)=Zb7 (UInt8.ofNat n.1):=by decide+kernel
 have h3:=h2 ⟨c.toNat,c.toNat_lt⟩;rw [show UInt8.ofNat c.toNat=c by simp] at h3;exact h3 h
def HxRel (s4:ByteArray)(ps:List Int)(W0:World)(K:Nat)(v:Value)(wr:World):Prop:=
 ∃k i:Nat,Run ps k i∧wr.heap[K]? =some (.stringIter s4 i)∧(∃V:Int,v= .int .i32 V∧(ps.take k).foldl (fun p c=>p*16+Zb7 c.toNat.toUInt8) 0=V∧0≤V∧V<16^k)∧Below K W0 wr
def SiRel (l:List UInt8)(w0:World)(v0 v3:Value)(wr:World):Prop:=
 ∃(k:Nat) (s:ByteArray),5*k≤l.length∧v0= .string s∧s.data.toList=l.drop (5*k)∧wr.ownsRow w0.heap.size 5 1 v3 (ZF ((ZW l).take k)).length ((ZF ((ZW l).take k)).map (Value.int .u8))∧Below w0.heap.size w0 wr
theorem ext_list (s:ByteArray)(a b:Nat):(s.extract a b).data.toList=(s.data.toList.take b).drop a:=by
 rw [List.drop_take];simp
theorem Zrl {x y:Int} (hy₀:0≤y)(hy:y<16)(hx₀:0≤x)(hx:x<134217728):bits .or .i32 (x*16) y=x*16+y:=
 bits_join .i32 31 (by decide) (fun n h0 h1=>by simp [IntKind.wrap,IntKind.bits,IntKind.signed];omega) 4 (x*16) y (by omega) (by omega) (by omega) hy₀ hy (by omega)
theorem ZoR (s:ByteArray)(hs:s.size≤100000)(hok:Zbd s.data.toList=true)(w:World):
 Calls Tryz.prog 267 #[.string s] w fun e w'=>e= .returned (.string (tB (ZW s.data.toList)))∧Below w.heap.size w w':=by
 have hl0:s.data.toList.length=s.size:=by simp
 have HP:Hid (∀w',Below w.heap.size w w'→(fun e w'=>e=Ending.returned (.string (tB (ZW s.data.toList)))∧Below w.heap.size w w') (.returned (.string (tB (ZW s.data.toList)))) w'):=Lib.hid fun w' hb=>⟨rfl,hb⟩
 generalize (fun(e:Ending) (w':World)=>e=Ending.returned (.string (tB (ZW s.data.toList)))∧Below w.heap.size w w')=P at*;have Hok:=Lib.hid hok;clear hok;go_enter Tryz.func267,Tryz.ntmps267
 go_wp2_with fail
 go_loopw [0,3] (fun v0 v3 wr=>SiRel s.data.toList w v0 v3 wr) (fun v0 _ _=>match v0 with| .string t=>t.size|_=>0)
 case atStart=>exact⟨0,s,by omega,rfl,rfl,⟨rfl,.inl ⟨rfl,rfl⟩⟩,Below.refl _ _⟩
 case round=>
  obtain⟨k0,t,hk,rfl,ht,hown,hb⟩:=hrel;have htl:t.data.toList.length=t.size:=by simp
  obtain⟨wo,rfl⟩:∃wo:World,wo=wr:=⟨_,rfl⟩
  by_cases h5:5≤t.size
  · obtain⟨a,b,c,d,e,r,hd⟩:=ZhJ t.data.toList (by omega);have ho:=ZhR k0 _ hk Hok.out;rw [←ht,hd] at ho;unfold Zbd at ho;simp only [Bool.and_eq_true,List.all_cons,List.all_nil,decide_eq_true_eq,and_true] at ho;obtain⟨⟨⟨ha,hb',hc,hd'⟩,hsc⟩,_⟩:=ho;obtain⟨htk,hdr⟩:=Zrg hk (ht.symm.trans hd);have h4:(t.extract 0 4).data.toList=[a,b,c,d]:=by rw [ext_list,hd];rfl
    have hz4:(t.extract 0 4).size=4:=by simp;omega
    obtain⟨hg1,hg2⟩:=Zk3 [a,b,c,d] (fun x hx=>by
     simp only [List.mem_cons,List.not_mem_nil,or_false] at hx;rcases hx with rfl|rfl|rfl|rfl
     · exact(ZcT ha).1
     · exact(ZcT hb').1
     · exact(ZcT hc).1
     · exact(ZcT hd').1)
    have hg:Good (t.extract 0 4) ([a,b,c,d].map fun c:UInt8=>(c.toNat:Int)):=⟨h4.trans hg1.symm,hg2⟩
    have hp4:=hg.pre;have h5b:decide ((5:Int)≤t.size)=true:=by simp;omega
    have hit:=World.iter_heap wo (t.extract 0 4) 0;go_wp2_with fail
    go_loopw [4] (fun v4 wx=>HxRel (t.extract 0 4) ([a,b,c,d].map fun c:UInt8=>(c.toNat:Int)) wo wo.heap.size v4 wx) (fun _ wx=>5 - wx.iterPos wo.heap.size)
    case atStart=>exact⟨0,0,Run.zero _,hit,⟨0,rfl,rfl,by decide,by decide⟩,(Below.refl _ _).alloc (Nat.le_refl _) _⟩
    case round=>
     obtain⟨k,i,hrun,hK,⟨V,rfl,hV,hV0,hV1⟩,hbk⟩:=hrel;have HV:=Lib.hid hV;clear hV;have hlen4:([a,b,c,d].map fun c:UInt8=>(c.toNat:Int)).length=4:=rfl;by_cases hk4:k<([a,b,c,d].map fun c:UInt8=>(c.toNat:Int)).length
     · obtain⟨p,n,hst,hrun',hn1,hn4,hin,hp0,hp1,_⟩:=hrun.step hp4 hk4;have hstep:=fun ty=>Zgo (P:=Tryz.prog) hst (by omega) wr wo.heap.size hK ty;obtain⟨hpd,hp128⟩:0≤Zb7 p.toNat.toUInt8∧p<128:=by
        have hm:p∈[a,b,c,d].map fun c:UInt8=>(c.toNat:Int):=by rw [hst.2.2.1];exact Zge hk4
        obtain⟨x,hx,rfl⟩:=List.mem_map.1 hm;rw [show((x.toNat:Int).toNat.toUInt8)=x from ZbX rfl];simp only [List.mem_cons,List.not_mem_nil,or_false] at hx;rcases hx with rfl|rfl|rfl|rfl
        · exact⟨ha,by have:=(ZcT ha).1;omega⟩
        · exact⟨hb',by have:=(ZcT hb').1;omega⟩
        · exact⟨hc,by have:=(ZcT hc).1;omega⟩
        · exact⟨hd',by have:=(ZcT hd').1;omega⟩
       obtain⟨_,hd16⟩:=ZcT hpd;have hix:=fun W=>Tryz.strings_IndexRune_ascii ⟨#[48,49,50,51,52,53,54,55,56,57,65,66,67,68,69,70]⟩ p W hp0 hp128;rw [show(ByteArray.mk #[48,49,50,51,52,53,54,55,56,57,65,66,67,68,69,70]).data.toList=[48,49,50,51,52,53,54,55,56,57,65,66,67,68,69,70] from rfl,Zrf hpd] at hix;generalize hD:Zb7 p.toNat.toUInt8=D at*;have HD:=Lib.hid hD;clear hD;have h16:(16:Int)^k≤4096:=by
        have:(16:Nat)^k≤16^3:=Nat.pow_le_pow_right (by decide) (by rw [hlen4] at hk4;omega)
        exact_mod_cast this
       go_wp2_with (go_at_call 189;refine(hix _).mono ?_;rintro e w5 ⟨rfl,rfl⟩)
       rw [Zrl hpd hd16 hV0 (by omega)];have hb2:=Lib.below_iterAt hbk (k:=wo.heap.size) (Nat.le_refl _) (t.extract 0 4) (i+n);have hK1:=Lib.iterAt_heap wr wo.heap.size (t.extract 0 4) i (i+n) hK;refine⟨⟨k+1,i+n,hrun',hK1,⟨V*16+D,rfl,?_,by omega,by rw [Int.pow_succ];omega⟩,hb2⟩,?_⟩
       · rw [hst.snoc hk4,List.foldl_append,HV.out];simp only [List.foldl_cons,List.foldl_nil];rw [HD.out]
       · rw [ZcV hK,ZcV hK1];omega
     · have hk2:k=([a,b,c,d].map fun c:UInt8=>(c.toNat:Int)).length:=Nat.le_antisymm hrun.1 (by omega);subst hk2;obtain⟨hi,_,hie⟩:=hrun.end_ hp4;have hend:=fun ty=>Lib.run_next_end_at (P:=Tryz.prog) wr wo.heap.size (t.extract 0 4) i ty hK (by simp at hie;omega);have hvv:V=hexV [a,b,c,d]:=by
        rw [←HV.out];unfold hexV;rw [List.take_length,List.foldl_map];have e:∀x:UInt8,x.toNat.toUInt8=x:=fun x=>by simp
        simp only [Int.toNat_natCast,e]
       have Hvv:=Lib.hid hvv;clear hvv hK hi hie hrun;rw [hlen4] at hV1;have hV2:V<65536:=by omega
       have hcap:(ZF ((ZW s.data.toList).take k0)).length+4≤140737488355328:=by
        have h1:=ZgJ ((ZW s.data.toList).take k0);have h2:=(ZcX ((ZW s.data.toList).take k0)).2;rw [List.length_take] at h2;omega
       have hnext:Hid ((ZF ((ZW s.data.toList).take (k0+1))).map (Value.int .u8)=(ZF ((ZW s.data.toList).take k0)).map (Value.int .u8)++Lib.runeCells V):=by
        rw [htk,←Hvv.out,ZgK,List.map_append];rfl
       have hnext2:Hid ((ZF ((ZW s.data.toList).take (k0+1))).length=(ZF ((ZW s.data.toList).take k0)).length+(Lib.runeCells V).length):=by
        have:=congrArg List.length hnext.out;simp only [List.length_map,List.length_append] at this;exact this
       have hownr:=ZE hown hbk;have hbr:Below w.heap.size w wr:=hb.trans (hbk.mono hb.size);go_wp2_with (go_at_call 170;refine(Tryz.utf8_AppendRune_plain _ _ _ _ V (by omega) (by omega) _ hownr hcap hbr.size).mono ?_;rintro e w2 ⟨v',rfl,hown2,o,hg2⟩)
       have hb2:Below w.heap.size w w2:=Zaa (hbr.alloc hbr.size o) (hownr.alloc o) hg2 (by have:=hbr.size;simp;omega) (Nat.le_refl _);rw [←hnext.out,←hnext2.out] at hown2;have h5':(5:Int)≤t.size:=by omega
       go_wp2_with fail
       go_roundw
       case rel=>exact⟨k0+1,t.extract 5 t.size,by have:=congrArg List.length ht;rw [List.length_drop,htl] at this;omega,rfl,by rw [ext_list,List.take_of_length_le (by omega),ht,List.drop_drop];rfl,hown2,hb2⟩
       case measure=>simp;omega
  · have hnil:=Zrj (by rw [←ht];omega) (ZhR k0 _ hk Hok.out);have hlt5:¬((5:Int)≤t.size):=by omega
    have hd2:=(ZhQ k0 _ hk).1;rw [hnil] at hd2;have hle:(ZW s.data.toList).length≤k0:=by
     have:=congrArg List.length hd2;rw [List.length_drop] at this;simp [ZW] at this;omega
    rw [List.take_of_length_le hle] at hown;have hconv:=ZdO (P:=Tryz.prog) 150 9 5 Tryz.underlying150 Tryz.underlying5 Tryz.underlying9 wo hown;rw [ZgG] at hconv;go_wp2_with fail
    exact HP.out _ hb
theorem ZoM (l:List Pce)(A:Option Addr)(c:Nat)(hl:l.length≤4096)(hok:∀p∈l,Za6 p∧p.2.2.2.1.size≤1000000)(w:World)(hT:Zk w)(hA:ZcM w w.heap.size A l):
 Calls Tryz.prog 205 #[.slice A l.length c] w (ZaW (mdL l) w):=by
 have hn:=fun o=>Zjj l A c hl hok (w.alloc o) (ZI hT o) ((hA.below ((Below.refl _ _).alloc (Nat.le_refl _) o)).more (by simp));have HP:Hid (∀A c rs w',rs.length≤c→rs.length≤4096→TbR w' w'.heap.size A rs→Zq rs=mdL l→Below w.heap.size w w'→ZaW (mdL l) w (.returned (.agg #[.slice A rs.length c])) w'):=Lib.hid fun A c rs w' h1 h2 h3 h4 hb=>⟨A,c,rs,rfl,h1,h2,h3,h4,hb⟩
 generalize ZaW (mdL l) w=P at*;generalize ftE l=fe at*;generalize ftA l=fa at*;unfold Zg3 at hn;go_enter Tryz.func205,Tryz.ntmps205
 go_wp2_with (go_at_call 264;refine(hn _).mono ?_;rintro e w3 ⟨A3,c3,rs,rfl,h1,h2,h3,h4,hb3⟩;have HB3:=Lib.hid (Ze hb3);have hz3:=hb3.size;simp only [World.size_alloc] at hz3;have g0:w.heap.size<w3.heap.size:=(by omega);have g1:w.heap.size<w3.heap.size+1:=(by omega);obtain⟨b0,f0,_⟩:=bx hb3;have d0:=b0 0;have d1:=f0 0)
 refine bodyPost_ret (v:= .agg #[.slice A3 rs.length c3]) (by simp [results,Tryz.results205,go_sem,World.cell?_alloc_lt,g0,g1,d0]) rfl ?_;have hh:=Zw (heap_alloc_new w (.cells #[.slice none 0 0] 190)) hb3;have hb4:∀(w3:World) o1 o2,Below w3.heap.size w3 ((w3.alloc o1).alloc o2):=fun w3 o1 o2=>(((Below.refl _ w3).alloc (Nat.le_refl _) _).alloc (by simp) _)
 have h5:TbR (w3.setCell ⟨w.heap.size,0,none⟩ (.slice A3 rs.length c3)) (w3.setCell ⟨w.heap.size,0,none⟩ (.slice A3 rs.length c3)).heap.size A3 rs:=(h3.set1 hh (by decide) _).more (by simp);exact HP.out A3 c3 rs _ h1 h2 ((h5.below (hb4 _ _ _)).more (by simp only [World.size_alloc];omega)) h4 ((HB3.out.setCell (Nat.le_refl _) _).trans ((hb4 _ _ _).mono (by simp;omega)))
theorem ZfQ {l:List Pce} {M:List Pr} (hm:ZaR [] l 0= .inl M)(hl:l.length≤4096)(hok:∀p∈l,Za6 p∧p.2.2.2.1.size≤1000000)(T:TypeId)(w:World)(hT:Zk w):
 Calls Tryz.prog 205 #[.slice (some ⟨w.heap.size,0,none⟩) l.length l.length] (w.alloc (.cells (l.flatMap pV).toArray T)) (ZaW M (w.alloc (.cells (l.flatMap pV).toArray T))):=by
 have h:=ZoM l (some ⟨w.heap.size,0,none⟩) l.length hl hok _ (ZI hT (.cells (l.flatMap pV).toArray T)) ((ZlZ w T l).more (by simp));unfold mdL at h;rw [hm] at h;exact h
theorem Zjx (w:World):Calls Tryz.prog 265 #[] w fun e w'=>e= .returned (.agg #[.int .i64 0,.int .i32 0,.int .i64 128,.string ⟨#[]⟩])∧Below w.heap.size w w':=by
 go_enter Tryz.func265,Tryz.ntmps265
 go_wp2_with (go_at_call 206;refine(Zb1 0 0 128 _).mono ?_;rintro e w1 ⟨rfl,hb1⟩;obtain⟨⟨b0,b1,b2,b3⟩,f0,f1,f2,f3⟩:=bx4 hb1;have HB1:=Lib.hid (Ze hb1);clear hb1)
 refine bodyPost_ret (v:= .agg #[.int .i64 0,.int .i32 0,.int .i64 128,.string ⟨#[]⟩]) (by simp [results,Tryz.results265,go_sem,b0,b1,b2,b3]) rfl ⟨rfl,?_⟩;exact(((HB1.out.setCell (Nat.le_refl _) _).setCell (Nat.le_refl _) _).setCell (Nat.le_refl _) _).setCell (Nat.le_refl _) _
def eqB:List UInt8→List UInt8→Bool
 |[],[]=>true
 |a::l,b::r=>Nat.beq a.toNat b.toNat&&eqB l r
 |_,_=>false
theorem ZkK:∀(l r:List UInt8),eqB l r=true→l=r
 |[],[],_=>rfl
 |a::l,b::r,h=>by
  simp only [eqB,Bool.and_eq_true] at h;rw [ZkK l r h.2,UInt8.toNat_inj.1 (Nat.eq_of_beq_eq_true h.1)]
 |[],_::_,h=>by simp [eqB] at h
 |_::_,[],h=>by simp [eqB] at h
def lB (l:List UInt8):ByteArray:=⟨l.toArray⟩
theorem lit5 (l:List UInt8)(d:Array UInt8)(h:eqB d.toList l=true):ByteArray.mk d=lB l:=by
 have:=ZkK _ _ h;unfold lB;rw [←this]
theorem Zhb {l:List UInt8} {ps:List Int} (h:ZW l=ps∧Zbd l=true)(hl:l.length≤100000)(w:World):
 Calls Tryz.prog 267 #[.string (lB l)] w fun e w'=>e= .returned (.string (tB ps))∧Below w.heap.size w w':=by
 have h1:=ZoR (lB l) (show(lB l).size≤100000 from hl) (by show Zbd l=true;exact h.2) w;rw [show ZW (lB l).data.toList=ps from h.1] at h1;exact h1
theorem ZiF {w w3:World} {A:Option Addr} {c:Nat} {rs:List (Rw×Sl)} (h:TbR w3 w3.heap.size A rs)(hb:Below (w.alloc (.cells #[.slice none 0 0] 190)).heap.size (w.alloc (.cells #[.slice none 0 0] 190)) w3):
 TbR (w3.setCell ⟨w.heap.size,0,none⟩ (.slice A rs.length c)) (w3.setCell ⟨w.heap.size,0,none⟩ (.slice A rs.length c)).heap.size A rs∧Below w.heap.size w (w3.setCell ⟨w.heap.size,0,none⟩ (.slice A rs.length c)):=
 ⟨(h.set1 (Zw (heap_alloc_new w (.cells #[.slice none 0 0] 190)) hb) (by decide) _).more (by simp),(Ze hb).setCell (Nat.le_refl _) _⟩
theorem Zjy (w:World)(hT:Zk w):Calls Tryz.prog 207 #[] w (ZaW (Zz 1) w):=by
 have HP:Hid (∀A c rs w',rs.length≤c→rs.length≤4096→TbR w' w'.heap.size A rs→Zq rs=Zz 1→Below w.heap.size w w'→ZaW (Zz 1) w (.returned (.agg #[.slice A rs.length c])) w'):=Lib.hid fun A c rs w' h1 h2 h3 h4 hb=>⟨A,c,rs,rfl,h1,h2,h3,h4,hb⟩
 generalize ZaW (Zz 1) w=P at*;have hsg:=fun W=>Zhb koi_sg (by decide) W;have htb:=fun W h=>ZfQ Zs8 (by decide) Zs6 255 W h;rw [show(rusP.flatMap pV).toArray=#[.int .i64 0,.int .i32 0,.int .i64 128,.string ⟨#[]⟩,.int .i64 128,.int .i32 0,.int .i64 0,.string (tB Zd0)] from rfl,show rusP.length=2 from rfl] at htb;unfold ZaW at htb;refine calls_of_wp Tryz.func207 rfl ?_;rw [lit5 koiB]
 rotate_left
 kernel_rfl
 generalize lB koiB=b1 at*;generalize tB Zd0=b2 at*;simp only [Tryz.ntmps207,List.size_toArray,List.length_nil,Nat.reduceSub,Array.replicate_succ,Array.replicate_zero,List.push_toArray,List.append_toArray,List.nil_append,List.cons_append];go_wp2_with (first
  |(go_at_call 265;refine(Zjx _).mono ?_;rintro e w1 ⟨rfl,hb1⟩;have HB1:=Lib.hid hb1;have hT1:=Zaf (ZI hT _) hb1 (Nat.le_refl _))
  |(go_at_call 267;refine(hsg _).mono ?_;rintro e w2 ⟨rfl,hb2⟩;have HB2:=Lib.hid (HB1.out.trans (hb2.mono HB1.out.size));have hT2:=Zaf hT1 hb2 (Nat.le_refl _))
  |(go_at_call 266;refine(ZfM 128 _ _).mono ?_;rintro e w3 ⟨rfl,hb3⟩;have HB3:=Lib.hid (HB2.out.trans (hb3.mono HB2.out.size));have hT3:=Zaf hT2 hb3 (Nat.le_refl _))
  |(go_at_call 205;refine(htb _ hT3).mono ?_;rintro e w4 ⟨A,c,rs,rfl,h1,h2,h3,h4,hb4⟩;have HB4:=Lib.hid (HB3.out.trans ((Ze hb4).mono HB3.out.size));have H3:=Lib.hid h3;have H4:=Lib.hid h4;clear h3 h4 hb1 hb2 hb3 hb4 hT1 hT2 hT3;obtain⟨b0,f0,_⟩:=bx HB4.out;have d0:=b0 0;have d1:=f0 0;clear b0 f0))
 obtain⟨g1,g2⟩:=ZiF (c:=c) H3.out HB4.out;refine bodyPost_ret (v:= .agg #[.slice A rs.length c]) (by simp [results,Tryz.results207,go_sem,d0]) rfl ?_;exact HP.out A c rs _ h1 h2 g1 H4.out g2
theorem Zlh:∀rs:List (Rw×Sl),(∀x∈rs,1≤x.1.2.1)→rs.length≤szR rs
 |[],_=>by simp
 |x::rs,h=>by
  have h1:=Zlh rs (fun y hy=>h y (List.mem_cons_of_mem _ hy));have h2:=h x (List.mem_cons_self ..);unfold szR at*;simp only [List.map_cons,List.sum_cons,List.length_cons];omega
theorem tb_len {w:World} {B:Nat} {A:Option Addr} {rs:List (Rw×Sl)} (h:TbR w B A rs):rs.length≤(Zq rs).length:=by
 have h1:=Zlh rs (fun x hx=>(h.2.1 x hx).1.1);have h2:=Zft rs;unfold Zq;omega
theorem ZbG {w0 W W':World} (h:Hid (Below w0.heap.size w0 W∧Zk W))(hb:Below W.heap.size W W'):Hid (Below w0.heap.size w0 W'∧Zk W'):=
 Lib.hid ⟨h.out.1.trans (hb.mono h.out.1.size),Zaf h.out.2 hb (Nat.le_refl _)⟩
theorem ZoI (w:World)(hT:Zk w):Calls Tryz.prog 209 #[] w (ZaW (Zz 3) w):=by
 have HP:Hid (∀A c rs w',rs.length≤c→rs.length≤4096→TbR w' w'.heap.size A rs→Zq rs=Zz 3→Below w.heap.size w w'→ZaW (Zz 3) w (.returned (.agg #[.slice A rs.length c])) w'):=Lib.hid fun A c rs w' h1 h2 h3 h4 hb=>⟨A,c,rs,rfl,h1,h2,h3,h4,hb⟩
 generalize ZaW (Zz 3) w=P at*;have hs1:=fun W=>Zhb b0_sg (by decide) W;have hs2:=fun W=>Zhb f0_sg (by decide) W;have htb:=fun W h=>ZfQ Zpo (by decide) Zpn 255 W h;rw [show(altP.flatMap pV).toArray=#[.int .i64 0,.int .i32 0,.int .i64 128,.string ⟨#[]⟩,.int .i64 128,.int .i32 1040,.int .i64 48,.string ⟨#[]⟩,.int .i64 176,.int .i32 0,.int .i64 0,.string (tB Zev),.int .i64 224,.int .i32 1088,.int .i64 16,.string ⟨#[]⟩,.int .i64 240,.int .i32 0,.int .i64 0,.string (tB ZeB)] from rfl,show altP.length=5 from rfl] at htb;unfold ZaW at htb;refine calls_of_wp Tryz.func209 rfl ?_;rw [lit5 b0B]
 rotate_left
 kernel_rfl
 rw [lit5 f0B]
 rotate_left
 kernel_rfl
 generalize lB b0B=b1 at*;generalize lB f0B=b2 at*;generalize tB Zev=b3 at*;generalize tB ZeB=b4 at*;simp only [Tryz.ntmps209,List.size_toArray,List.length_nil,Nat.reduceSub,Array.replicate_succ,Array.replicate_zero,List.push_toArray,List.append_toArray,List.nil_append,List.cons_append];have hP0:Hid (Below (w.alloc (.cells #[.slice none 0 0] 190)).heap.size (w.alloc (.cells #[.slice none 0 0] 190)) (w.alloc (.cells #[.slice none 0 0] 190))∧Zk (w.alloc (.cells #[.slice none 0 0] 190))):=Lib.hid ⟨Below.refl _ _,ZI hT _⟩;go_wp2_with (first
  |(go_at_call 265;refine(Zjx _).mono ?_;rintro e w1 ⟨rfl,hb1⟩;have G1:=ZbG hP0 hb1)
  |(go_at_call 206;first
   |((with_reducible refine(Zb1 128 1040 48 _).mono ?_);rintro e w2 ⟨rfl,hb2⟩;have G2:=ZbG G1 hb2)
   |((with_reducible refine(Zb1 224 1088 16 _).mono ?_);rintro e w5 ⟨rfl,hb5⟩;have G5:=ZbG G4 hb5))
  |(go_at_call 267;first
   |((with_reducible refine(hs1 _).mono ?_);rintro e w3 ⟨rfl,hb3⟩;have G3:=ZbG G2 hb3)
   |((with_reducible refine(hs2 _).mono ?_);rintro e w6 ⟨rfl,hb6⟩;have G6:=ZbG G5 hb6))
  |(go_at_call 266;first
   |((with_reducible refine(ZfM 176 b3 _).mono ?_);rintro e w4 ⟨rfl,hb4⟩;have G4:=ZbG G3 hb4)
   |((with_reducible refine(ZfM 240 _ _).mono ?_);rintro e w7 ⟨rfl,hb7⟩;have G7:=ZbG G6 hb7))
  |(go_at_call 205;refine(htb _ G7.out.2).mono ?_;rintro e w8 ⟨A,c,rs,rfl,h1,h2,h3,h4,hb8⟩;have HB8:=Lib.hid (G7.out.1.trans ((Ze hb8).mono G7.out.1.size));have H3:=Lib.hid h3;have H4:=Lib.hid h4;clear h3 h4 hb8;obtain⟨b0,f0,_⟩:=bx HB8.out;have d0:=b0 0;have d1:=f0 0;clear b0 f0))
 obtain⟨g1,g2⟩:=ZiF (c:=c) H3.out HB8.out;refine bodyPost_ret (v:= .agg #[.slice A rs.length c]) (by simp [results,Tryz.results209,go_sem,d0]) rfl ?_;exact HP.out A c rs _ h1 h2 g1 H4.out g2
theorem ZoN (w:World)(hT:Zk w):Calls Tryz.prog 208 #[] w (ZaW (Zz 2) w):=by
 have HP:Hid (∀A c rs w',rs.length≤c→rs.length≤4096→TbR w' w'.heap.size A rs→Zq rs=Zz 2→Below w.heap.size w w'→ZaW (Zz 2) w (.returned (.agg #[.slice A rs.length c])) w'):=Lib.hid fun A c rs w' h1 h2 h3 h4 hb=>⟨A,c,rs,rfl,h1,h2,h3,h4,hb⟩
 generalize ZaW (Zz 2) w=P at*;have htb:=fun W h=>ZfQ Zt5 (by decide) Zt4 255 W h;rw [show(ukrP.flatMap pV).toArray=#[.int .i64 164,.int .i32 1108,.int .i64 1,.string ⟨#[]⟩,.int .i64 166,.int .i32 1110,.int .i64 2,.string ⟨#[]⟩,.int .i64 173,.int .i32 1169,.int .i64 1,.string ⟨#[]⟩,.int .i64 180,.int .i32 1028,.int .i64 1,.string ⟨#[]⟩,.int .i64 182,.int .i32 1030,.int .i64 2,.string ⟨#[]⟩,.int .i64 189,.int .i32 1168,.int .i64 1,.string ⟨#[]⟩] from rfl,show ukrP.length=6 from rfl] at htb;unfold ZaW at htb;have hP0:Hid (Below (w.alloc (.cells #[.slice none 0 0] 190)).heap.size (w.alloc (.cells #[.slice none 0 0] 190)) (w.alloc (.cells #[.slice none 0 0] 190))∧Zk (w.alloc (.cells #[.slice none 0 0] 190))):=Lib.hid ⟨Below.refl _ _,ZI hT _⟩;go_enter Tryz.func208,Tryz.ntmps208
 go_wp2_with (first
  |(go_at_call 206;first
   |((with_reducible refine(Zb1 164 1108 1 _).mono ?_);rintro e x0 ⟨rfl,hb1⟩;have G0:=ZbG hP0 hb1;clear hb1)
   |((with_reducible refine(Zb1 166 1110 2 _).mono ?_);rintro e x1 ⟨rfl,hb1⟩;have G1:=ZbG G0 hb1;clear hb1)
   |((with_reducible refine(Zb1 173 1169 1 _).mono ?_);rintro e x2 ⟨rfl,hb1⟩;have G2:=ZbG G1 hb1;clear hb1)
   |((with_reducible refine(Zb1 180 1028 1 _).mono ?_);rintro e x3 ⟨rfl,hb1⟩;have G3:=ZbG G2 hb1;clear hb1)
   |((with_reducible refine(Zb1 182 1030 2 _).mono ?_);rintro e x4 ⟨rfl,hb1⟩;have G4:=ZbG G3 hb1;clear hb1)
   |((with_reducible refine(Zb1 189 1168 1 _).mono ?_);rintro e x5 ⟨rfl,hb1⟩;have G5:=ZbG G4 hb1;clear hb1))
  |(go_at_call 205;refine(htb _ G5.out.2).mono ?_;rintro e w8 ⟨A,c,rs,rfl,h1,h2,h3,h4,hb8⟩;have HB8:=Lib.hid (G5.out.1.trans ((Ze hb8).mono G5.out.1.size));have H3:=Lib.hid h3;have H4:=Lib.hid h4;clear h3 h4 hb8;obtain⟨b0,f0,hlt8⟩:=bx HB8.out;have d0:=b0 0;have d1:=f0 0;clear b0 f0))
 have hbx:=((Below.refl w8.heap.size w8).alloc (Nat.le_refl _) (.cells #[.slice A rs.length c] 190)).drew;have hcx:(w8.alloc (.cells #[.slice A rs.length c] 190)).drew.cell? ⟨w8.heap.size,0,none⟩=some (.slice A rs.length c):=cell_one_new w8 _ _ 0 _ rfl;have hT8:Zk w8:=Zaf (ZI hT _) HB8.out (Nat.le_refl _);have hTx:=Zaf hT8 hbx (Nat.le_refl _);have hHx:=(H3.out.below hbx).more hbx.size;have hBx:=Lib.hid (HB8.out.trans (hbx.mono HB8.out.size));have hzx:w8.heap.size<(w8.alloc (.cells #[.slice A rs.length c] 190)).drew.heap.size:=by simp
 refine ZeL (fun W=>W.cell? ⟨w8.heap.size,0,none⟩=some (.slice A rs.length c)) [(0,true),(1,false),(2,false),(3,false)] (by kernel_rfl) (by kernel_rfl) (by kernel_rfl) (Nat.le_of_ble_eq_true rfl) (fun _ _ d _ _ h=>by cases d<;>exact h) hcx ?_;generalize (w8.alloc (.cells #[.slice A rs.length c] 190)).drew=W0 at*;refine ZbS rfl (by rfl) (.agg #[.slice A rs.length c]) (fun W hSw=>by go_simp) ?_
 try simp only [Act.put,List.setIfInBounds_toArray,List.set_cons_zero,List.set_cons_succ]
 refine ZcZ rfl (by rfl) (fun K hK=> ?_)
 go_simp
 refine(Zjy W0 hTx).mono ?_;rintro e W1 ⟨A2,c2,rs2,rfl,q1,q2,q3,q4,hb9⟩;have hS1:=(hb9.cell (p:=⟨w8.heap.size,0,none⟩) hzx).trans hcx;have hH1:=(hHx.below hb9).more hb9.size;have HB9:=Lib.hid (hBx.out.trans (hb9.mono hBx.out.size));have HQ4:=Lib.hid q4;have H1z:=hb9.size;clear hcx hHx hTx hbx hT8 hb9 q4;go_wp2_with fail
 refine hK.out _ _ hS1 ?_;clear hK K
 try simp only [Act.put,List.setIfInBounds_toArray,List.set_cons_zero,List.set_cons_succ]
 refine ZcZ rfl (by rfl) (fun K hK=> ?_)
 go_simp
 refine(Zjo A A2 c c2 rs rs2 (by omega) (by omega) W1 hH1 q3).mono ?_;rintro e W2 ⟨A3,c3,rs3,rfl,r1,r2,r3,r4,hb10⟩;have hS2:=(hb10.cell (p:=⟨w8.heap.size,0,none⟩) (Nat.lt_of_lt_of_le hzx H1z)).trans hS1;have HB10:=Lib.hid (HB9.out.trans (hb10.mono HB9.out.size));have HR4:=Lib.hid (r4.trans (by rw [H4.out,HQ4.out,Zt6]));clear hH1 q3 hS1 hb10 r4;obtain⟨b0,f0,hlt0⟩:=bx HB10.out;have e0:=b0 0;have e1:=f0 0;clear b0 f0;go_wp2_with fail
 refine hK.out _ _ hS2 ?_;clear hK K
 try simp only [Act.put,List.setIfInBounds_toArray,List.set_cons_zero,List.set_cons_succ]
 refine ZcZ rfl (by rfl) (fun K hK=> ?_);have hS3:(W2.setCell ⟨w.heap.size,0,none⟩ (.slice A3 rs3.length c3)).cell? ⟨w8.heap.size,0,none⟩=some (.slice A rs.length c):=(Zb3 (by show w8.heap.size≠w.heap.size;omega) _).trans hS2;go_wp2_with fail
 refine hK.out _ _ hS3 ?_;clear hK K
 try simp only [Act.put,List.setIfInBounds_toArray,List.set_cons_zero,List.set_cons_succ]
 refine ZdT ?_;go_wp2_with fail
 obtain⟨g1,g2⟩:=ZiF (c:=c3) r3 HB10.out;refine bodyPost_ret (v:= .agg #[.slice A3 rs3.length c3]) (by simp [results,Tryz.results208,go_sem,e0]) rfl ?_;exact HP.out A3 c3 rs3 _ r1 (by have:=tb_len r3;rw [HR4.out] at this;exact Nat.le_trans this (by decide)) g1 HR4.out g2
def Zbk (c:Nat)(w0:World)(e:Ending)(w':World):Prop:=∃A cp rs,e= .returned (.tuple #[.agg #[.slice A rs.length cp,.int .i64 c],.bool true])∧rs.length≤cp∧rs.length≤4096∧TbR w' w'.heap.size A rs∧Zq rs=Zz c∧Below w0.heap.size w0 w'
theorem TbR.setS {w:World} {B g j0:Nat} {A:Option Addr} {rs:List (Rw×Sl)} {T:TypeId} {cs:Array Value} (h:TbR w B A rs)(hg:w.heap[g]? =some (.cells cs T (0,0)))(hs:cs.size≤3)(hT:T≠21)(v:Value):TbR (w.setCell ⟨g,j0,none⟩ v) B A rs:=by
 refine⟨⟨⟨h.1.1.1,fun h0=> ?_⟩,h.1.2⟩,fun x hx=>⟨(h.2.1 x hx).1,(h.2.1 x hx).2.keep fun k _ ⟨cs',fr,hh⟩=>heap_set (by rintro rfl;rw [hh] at hg;injection hg with hg;injection hg with _ hg _;exact hT hg.symm) v⟩,h.2.2⟩;obtain⟨ad,hA,hb,hc⟩:=h.1.1.2 h0;have hsp:=h.1.2 ad hA;refine⟨ad,hA,hb,fun j u hu=> ?_⟩;have hbk:ad.block≠g:=by
  rintro rfl;cases rs with
  |nil=>simp at h0
  |cons x rs=>
   have:=hc 3 (slV x.2) rfl;rw [ZgE hsp hg,Array.getElem?_eq_none (by omega)] at this;cases this
 rw [Zb3 (by rw [ZaX];exact hbk)];exact hc j u hu
theorem Zre {w:World} {g:Nat} {a b:Value} {T:TypeId} (h:w.heap[g]? =some (.cells #[a,b] T (0,0)))(v:Value):(w.setCell ⟨g,0,none⟩ v).heap[g]? =some (.cells #[v,b] T (0,0)):=by
 rw [heap_setCell_same _ _ _ _ _ _ h];rfl
theorem ZgH {w w3:World} {A:Option Addr} {c:Nat} {k:Int} {rs:List (Rw×Sl)} (h:TbR w3 w3.heap.size A rs)(hb:Below (w.alloc (.cells #[.slice none 0 0,.int .i64 0] 192)).heap.size (w.alloc (.cells #[.slice none 0 0,.int .i64 0] 192)) w3):
 TbR ((w3.setCell ⟨w.heap.size,0,none⟩ (.slice A rs.length c)).setCell ⟨w.heap.size,1,none⟩ (.int .i64 k)) ((w3.setCell ⟨w.heap.size,0,none⟩ (.slice A rs.length c)).setCell ⟨w.heap.size,1,none⟩ (.int .i64 k)).heap.size A rs∧Below w.heap.size w ((w3.setCell ⟨w.heap.size,0,none⟩ (.slice A rs.length c)).setCell ⟨w.heap.size,1,none⟩ (.int .i64 k)):=by
 have hg:=Zw (heap_alloc_new w (.cells #[.slice none 0 0,.int .i64 0] 192)) hb;exact⟨((h.setS hg (by decide) (by decide) _).setS (Zre hg _) (by simp) (by decide) _).more (by simp),((Ze hb).setCell (Nat.le_refl _) _).setCell (Nat.le_refl _) _⟩
theorem SOf_1 (w:World)(hT:Zk w):Calls Tryz.prog 128 #[.int .i64 1] w (Zbk 1 w):=by
 have HP:Hid (∀A c rs w',rs.length≤c→rs.length≤4096→TbR w' w'.heap.size A rs→Zq rs=Zz 1→Below w.heap.size w w'→Zbk 1 w (.returned (.tuple #[.agg #[.slice A rs.length c,.int .i64 1],.bool true])) w'):=Lib.hid fun A c rs w' h1 h2 h3 h4 hb=>⟨A,c,rs,rfl,h1,h2,h3,h4,hb⟩
 generalize Zbk 1 w=P at*;go_enter Tryz.func128,Tryz.ntmps128
 go_wp2_with (go_at_call 207;refine(Zjy _ (ZI hT _)).mono ?_;rintro e w4 ⟨A,c,rs,rfl,h1,h2,h3,h4,hb4⟩;have HB4:=Lib.hid hb4;have H3:=Lib.hid h3;have H4:=Lib.hid h4;clear h3 h4 hb4;obtain⟨b0,f0,_⟩:=bx HB4.out;have d0:=b0 0;have d1:=f0 0;have d2:=b0 1;have d3:=f0 1;clear b0 f0)
 obtain⟨g1,g2⟩:=ZgH (c:=c) (k:=1) H3.out HB4.out;refine bodyPost_ret (v:= .tuple #[.agg #[.slice A rs.length c,.int .i64 1],.bool true]) (by simp [results,Tryz.results128,go_sem,d0,d2]) rfl ?_;exact HP.out A c rs _ h1 h2 g1 H4.out g2
theorem SOf_2 (w:World)(hT:Zk w):Calls Tryz.prog 128 #[.int .i64 2] w (Zbk 2 w):=by
 have HP:Hid (∀A c rs w',rs.length≤c→rs.length≤4096→TbR w' w'.heap.size A rs→Zq rs=Zz 2→Below w.heap.size w w'→Zbk 2 w (.returned (.tuple #[.agg #[.slice A rs.length c,.int .i64 2],.bool true])) w'):=Lib.hid fun A c rs w' h1 h2 h3 h4 hb=>⟨A,c,rs,rfl,h1,h2,h3,h4,hb⟩
 generalize Zbk 2 w=P at*;go_enter Tryz.func128,Tryz.ntmps128
 go_wp2_with (go_at_call 208;refine(ZoN _ (ZI hT _)).mono ?_;rintro e w4 ⟨A,c,rs,rfl,h1,h2,h3,h4,hb4⟩;have HB4:=Lib.hid hb4;have H3:=Lib.hid h3;have H4:=Lib.hid h4;clear h3 h4 hb4;obtain⟨b0,f0,_⟩:=bx HB4.out;have d0:=b0 0;have d1:=f0 0;have d2:=b0 1;have d3:=f0 1;clear b0 f0)
 obtain⟨g1,g2⟩:=ZgH (c:=c) (k:=2) H3.out HB4.out;refine bodyPost_ret (v:= .tuple #[.agg #[.slice A rs.length c,.int .i64 2],.bool true]) (by simp [results,Tryz.results128,go_sem,d0,d2]) rfl ?_;exact HP.out A c rs _ h1 h2 g1 H4.out g2
theorem SOf_3 (w:World)(hT:Zk w):Calls Tryz.prog 128 #[.int .i64 3] w (Zbk 3 w):=by
 have HP:Hid (∀A c rs w',rs.length≤c→rs.length≤4096→TbR w' w'.heap.size A rs→Zq rs=Zz 3→Below w.heap.size w w'→Zbk 3 w (.returned (.tuple #[.agg #[.slice A rs.length c,.int .i64 3],.bool true])) w'):=Lib.hid fun A c rs w' h1 h2 h3 h4 hb=>⟨A,c,rs,rfl,h1,h2,h3,h4,hb⟩
 generalize Zbk 3 w=P at*;go_enter Tryz.func128,Tryz.ntmps128
 go_wp2_with (go_at_call 209;refine(ZoI _ (ZI hT _)).mono ?_;rintro e w4 ⟨A,c,rs,rfl,h1,h2,h3,h4,hb4⟩;have HB4:=Lib.hid hb4;have H3:=Lib.hid h3;have H4:=Lib.hid h4;clear h3 h4 hb4;obtain⟨b0,f0,_⟩:=bx HB4.out;have d0:=b0 0;have d1:=f0 0;have d2:=b0 1;have d3:=f0 1;clear b0 f0)
 obtain⟨g1,g2⟩:=ZgH (c:=c) (k:=3) H3.out HB4.out;refine bodyPost_ret (v:= .tuple #[.agg #[.slice A rs.length c,.int .i64 3],.bool true]) (by simp [results,Tryz.results128,go_sem,d0,d2]) rfl ?_;exact HP.out A c rs _ h1 h2 g1 H4.out g2
theorem SOf_0 (w:World)(hT:Zk w):Calls Tryz.prog 128 #[.int .i64 0] w (Zbk 0 w):=by
 have HP:Hid (∀A c rs w',rs.length≤c→rs.length≤4096→TbR w' w'.heap.size A rs→Zq rs=Zz 0→Below w.heap.size w w'→Zbk 0 w (.returned (.tuple #[.agg #[.slice A rs.length c,.int .i64 0],.bool true])) w'):=Lib.hid fun A c rs w' h1 h2 h3 h4 hb=>⟨A,c,rs,rfl,h1,h2,h3,h4,hb⟩
 generalize Zbk 0 w=P at*;have htb:=fun W h=>ZfQ Zry (by decide) Zrx 255 W h;rw [show(latP.flatMap pV).toArray=#[.int .i64 0,.int .i32 0,.int .i64 256,.string ⟨#[]⟩] from rfl,show latP.length=1 from rfl] at htb;unfold ZaW at htb;have hP0:Hid (Below (w.alloc (.cells #[.slice none 0 0,.int .i64 0] 192)).heap.size (w.alloc (.cells #[.slice none 0 0,.int .i64 0] 192)) (w.alloc (.cells #[.slice none 0 0,.int .i64 0] 192))∧Zk (w.alloc (.cells #[.slice none 0 0,.int .i64 0] 192))):=Lib.hid ⟨Below.refl _ _,ZI hT _⟩;go_enter Tryz.func128,Tryz.ntmps128
 go_wp2_with (first
  |(go_at_call 206;(with_reducible refine(Zb1 0 0 256 _).mono ?_);rintro e w1 ⟨rfl,hb1⟩;have G1:=ZbG hP0 hb1;clear hb1)
  |(go_at_call 205;refine(htb _ G1.out.2).mono ?_;rintro e w4 ⟨A,c,rs,rfl,h1,h2,h3,h4,hb4⟩;have HB4:=Lib.hid (G1.out.1.trans ((Ze hb4).mono G1.out.1.size));have H3:=Lib.hid h3;have H4:=Lib.hid h4;clear h3 h4 hb4;obtain⟨b0,f0,_⟩:=bx HB4.out;have d0:=b0 0;have d1:=f0 0;have d2:=b0 1;have d3:=f0 1;clear b0 f0))
 obtain⟨g1,g2⟩:=ZgH (c:=c) (k:=0) H3.out HB4.out;refine bodyPost_ret (v:= .tuple #[.agg #[.slice A rs.length c,.int .i64 0],.bool true]) (by simp [results,Tryz.results128,go_sem,d0,d2]) rfl ?_;exact HP.out A c rs _ h1 h2 g1 H4.out g2
theorem ZoL (c:Nat)(hc:c≤3)(w:World)(hT:Zk w):Calls Tryz.prog 128 #[.int .i64 c] w (Zbk c w):=by
 obtain rfl|rfl|rfl|rfl:c=0∨c=1∨c=2∨c=3:=by omega
 · exact SOf_0 w hT
 · exact SOf_1 w hT
 · exact SOf_2 w hT
 · exact SOf_3 w hT
end Go.Proofs.YtecandjkbbpooaaGreatDoor
