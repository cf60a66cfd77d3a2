/- Lemmas for a statement on the tops; conditions: as each says. -/
import Derived.Maps.AppendAt
import Derived.Test.YtnbkfkbcpfkddaaGreatDoorM34
import Derived.Test.YtnbkfkbcpfkddaaGreatDoorM35
set_option linter.unusedVariables false
set_option linter.unusedSimpArgs false
set_option maxRecDepth 100000
set_option maxHeartbeats 4000000
namespace Go.Proofs.YtnbkfkbcpfkddaaGreatDoor
open Go Go.RowKit
theorem ZpN:(Tryz.prog.info? 64).map (fun i=>(i.zero,i.size,i.bytes))=some (some (.agg #[.string ⟨#[]⟩,.string ⟨#[]⟩,.int .i64 0]),3,40):=by kernel_rfl
section
variable {ops:Array Oper} {rest:List Oper} {o:Oper} {a:Act} {Q:Exit→Act→World→Prop}
theorem app_rn (hgd:o.guard=none)(s x:Operand)(ho:o.op= .call {callee:= .builtin .append,args:=#[s,x],argTypes:=#[65,65]}) (base:Nat) (v:Value) (L:List Nx) (hs:a.eval s=v) (W:World) (m:Nx) (cs:Array Value) (hcs:cs=(nxV m).toArray)
 (hown:W.ownsRow base 64 3 v L.length (L.flatMap nxV)) (hbase:base≤W.heap.size) (hlen:L.length≤16777216) (hx:a.eval x= .slice (some ⟨W.heap.size,0,none⟩) 1 1)
 (h:∀v' w',Hid (w'.ownsRow base 64 3 v' (L++[m]).length ((L++[m]).flatMap nxV))→Below base W w'→wpList Tryz.prog ops Q rest (a.put o.dst v') w'):
 wpList Tryz.prog ops Q (o::rest) a (W.alloc (.cells cs 64)):=by
 obtain⟨i0,hi,iz0,iz1,iz2⟩:=info_parts ZpN;subst hcs;refine wpList_append_own _ hgd s x 65 ho base 64 i0 _ 3 40 Tryz.underlying65 hi iz0 iz1 iz2 rfl (by decide) v L.length _ hs (hown.alloc _) ⟨W.heap.size,0,none⟩ 1 1 (nxV m) hx rfl (Zco W (nxV m) _) ?_ (by unfold maxLen;omega) (by omega) (by simp;omega) ?_
 · intro u hu;simp only [nxV,List.mem_cons,List.not_mem_nil,or_false] at hu;rcases hu with rfl|rfl|rfl<;>rfl
 · intro v6 w6 hown6 hg6 _;refine h v6 w6 (Lib.hid ?_) (Z3 ((Below.refl _ W).alloc hbase _) (hown.alloc _) hg6 (by simp;omega) (Nat.le_refl _));rw [List.flatMap_append,List.length_append];simpa [nxV] using hown6
end
structure OnSt (w0 wx:World)(BA:Array Value)(G:Nat)(v:List UInt8)(vs:Int)(vl:Value)(ns:List Nx):Prop where
 b:Bx wx w0.heap.size BA 33
 res:Bx wx (w0.heap.size+1) #[.string ⟨#[]⟩,.string ⟨#[]⟩,.int .i64 0,.slice none 0 0] 67
 m:Bx wx G #[.string ⟨#[]⟩,.string (B v),.int .i64 vs,vl] 67
 own:wx.ownsRow (G+1) 64 3 vl ns.length (ns.flatMap nxV)
 nil_:ns=[]→vl= .slice none 0 0
 low:Below w0.heap.size w0 wx
 hG:w0.heap.size+2≤G
section
variable {w0 w w':World} {BA:Array Value} {G:Nat} {v:List UInt8} {vs:Int} {vl:Value} {ns:List Nx}
theorem OnSt.below (h:OnSt w0 w BA G v vs vl ns)(hb:Below w.heap.size w w'):OnSt w0 w' BA G v vs vl ns:=⟨h.b.below hb,h.res.below hb,h.m.below hb,Zo h.own hb,h.nil_,h.low.trans (hb.mono h.low.size),h.hG⟩
theorem OnSt.alloc (h:OnSt w0 w BA G v vs vl ns)(ob:Obj):OnSt w0 (w.alloc ob) BA G v vs vl ns:=h.below ((Below.refl _ _).alloc (Nat.le_refl _) _)
theorem OnSt.next {v6:Value} {ns2:List Nx} (h:OnSt w0 w BA G v vs vl ns)(ho:w'.ownsRow (G+1) 64 3 v6 (ns++ns2).length ((ns++ns2).flatMap nxV))(hb:Below (G+1) w w')(hne:ns++ns2≠[]):
 OnSt w0 (w'.setCell ⟨G,3,none⟩ v6) BA G v vs v6 (ns++ns2):=by
 have h1:=h.hG;have hbt:But G w'.heap.size w' (w'.setCell ⟨G,3,none⟩ v6):=(But.refl _ _ _).setCell (p:=⟨G,3,none⟩) (.inr rfl) _;exact⟨(h.b.same6 hb (by omega)).set (by omega) 3 _,(h.res.same6 hb (by omega)).set (by omega) 3 _,(h.m.same6 hb (by omega)).put 3 _,Zb0 ho hbt (by omega),fun e=>absurd e hne,(h.low.trans (hb.mono (by omega))).setCell (p:=⟨G,3,none⟩) (by show w0.heap.size≤G;omega) _,h1⟩
theorem OnSt.cells {a b c:Value} (h:OnSt w0 w #[a,b,c] G v vs vl ns):
 (w.cell? ⟨w0.heap.size,0,none⟩=some a∧w.cell? ⟨w0.heap.size,1,none⟩=some b∧w.cell? ⟨w0.heap.size,2,none⟩=some c)∧
 (w.cell? ⟨G,0,none⟩=some (.string ⟨#[]⟩)∧w.cell? ⟨G,1,none⟩=some (.string (B v))∧w.cell? ⟨G,2,none⟩=some (.int .i64 vs)∧w.cell? ⟨G,3,none⟩=some vl)∧
 (∀j,w.frozen? ⟨G,j,none⟩=false)∧(∀j,w.frozen? ⟨w0.heap.size+1,j,none⟩=false)∧G<w.heap.size∧w0.heap.size+1<w.heap.size:=
 ⟨⟨h.b.cell 0,h.b.cell 1,h.b.cell 2⟩,⟨h.m.cell 0,h.m.cell 1,h.m.cell 2,h.m.cell 3⟩,h.m.free,h.res.free,h.m.lt,h.res.lt⟩
theorem OnSt.resc (h:OnSt w0 w BA G v vs vl ns):w.cell? ⟨w0.heap.size+1,0,none⟩=some (.string ⟨#[]⟩)∧w.cell? ⟨w0.heap.size+1,1,none⟩=some (.string ⟨#[]⟩)∧w.cell? ⟨w0.heap.size+1,2,none⟩=some (.int .i64 0)∧w.cell? ⟨w0.heap.size+1,3,none⟩=some (.slice none 0 0):=⟨h.res.cell 0,h.res.cell 1,h.res.cell 2,h.res.cell 3⟩
end
def OnRel (w0:World)(BA:Array Value)(G:Nat)(v:List UInt8)(vs:Int)(ns:List Nx)(i:Value)(wx:World):Prop:=∃(k:Nat) (vl:Value),k≤ns.length∧i= .int .i64 k∧Hid (OnSt w0 wx BA G v vs vl (ns.take k))
def ZfE (w:World)(v:List UInt8)(vs:Int)(ns:List Nx)(e:Ending)(w':World):Prop:=∃vl,e= .returned (.agg #[.string ⟨#[]⟩,.string (B v),.int .i64 vs,vl])∧Zg nxV w.heap.size w' vl ns∧Below w.heap.size w w'
theorem Zmd (v:List UInt8)(vs:Int)(A:Option Addr)(c:Nat)(ns:List Nx)(hn:ns.length≤1000)(w:World)(h:RdN 3 nxV w w.heap.size A ns):
 Calls Tryz.prog 28 #[.agg #[.string (B v),.int .i64 vs,.slice A ns.length c]] w (ZfE w v vs ns):=by
 generalize hP:ZfE w v vs ns=P at*;have HP:=Lib.hid hP;have HR:=Lib.hid h;clear h hP;have B1:Hid (OnSt w (((w.alloc (.cells #[.string (B v),.int .i64 vs,.slice A ns.length c] 33)).alloc (.cells #[.string ⟨#[]⟩,.string ⟨#[]⟩,.int .i64 0,.slice none 0 0] 67)).alloc (.cells #[.string ⟨#[]⟩,.string (B v),.int .i64 vs,.slice none 0 0] 67)) #[.string (B v),.int .i64 vs,.slice A ns.length c] (w.heap.size+2) v vs (.slice none 0 0) []):=Lib.hid (by
  have e1:=Bx.new w #[.string (B v),.int .i64 vs,.slice A ns.length c] 33;have e2:=Bx.new (w.alloc (.cells #[.string (B v),.int .i64 vs,.slice A ns.length c] 33)) #[.string ⟨#[]⟩,.string ⟨#[]⟩,.int .i64 0,.slice none 0 0] 67;rw [World.size_alloc] at e2;have e3:=Bx.new ((w.alloc (.cells #[.string (B v),.int .i64 vs,.slice A ns.length c] 33)).alloc (.cells #[.string ⟨#[]⟩,.string ⟨#[]⟩,.int .i64 0,.slice none 0 0] 67)) #[.string ⟨#[]⟩,.string (B v),.int .i64 vs,.slice none 0 0] 67;rw [World.size_alloc,World.size_alloc] at e3;exact⟨(e1.alloc _).alloc _,e2.alloc _,e3,⟨rfl,.inl ⟨rfl,rfl⟩⟩,fun _=>rfl,(((Below.refl _ w).alloc (Nat.le_refl _) _).alloc (by simp) _).alloc (by simp;omega) _,Nat.le_refl _⟩)
 obtain⟨⟨c0,c1,c2⟩,⟨z0,z1,z2,z3⟩,f0,f1,l1,l2⟩:=B1.out.cells;go_enter Tryz.func28,Tryz.ntmps28
 go_wp2_with fail
 go_loopw [17] (fun i wx=>OnRel w #[.string (B v),.int .i64 vs,.slice A ns.length c] (w.heap.size+2) v vs ns i wx) (fun i _=>ns.length - (intOf i).toNat)
 case atStart=>exact⟨0,_,Nat.zero_le _,rfl,B1⟩
 case round=>
  obtain⟨k,vl,hk,rfl,ST⟩:=hrel;clear c0 c1 c2 z0 z1 z2 z3 f0 f1 l1 l2;obtain⟨A0,n0,c0',hvl⟩:=ZbG ST.out.own;subst hvl;obtain⟨⟨c0,c1,c2⟩,⟨z0,z1,z2,z3⟩,f0,f1,l1,l2⟩:=ST.out.cells;by_cases hlt:k<ns.length
  · obtain⟨n,hk1⟩:∃n,ns[k]? =some n:=⟨_,List.getElem?_eq_getElem hlt⟩
    obtain⟨ad,rfl,hadb,y0,y1,y2⟩:=(HR.out.below ST.out.low).note hk1;have hbl:ad.block<wr.heap.size:=Nat.lt_of_lt_of_le hadb ST.out.low.size;have HT:=Lib.hid (Zfl hk1);have htl:(ns.take k).length≤1000:=by rw [List.length_take];omega
    clear hk1;generalize ns.take k=tk at*;go_wp2_with (at_builtin;refine app_rn rfl _ _ rfl (w.heap.size+2+1) (.slice A0 n0 c0') tk rfl (wr.alloc (.cells #[.string (B n.name),.string (B n.text),.int .i64 n.set] 91)) n _ rfl (ST.out.alloc _).own (by rw [World.size_alloc];omega) (by omega) (by show Value.slice (some ⟨wr.heap.size+1,0,none⟩) 1 1=_;rw [World.size_alloc]) ?_;intro v6 w6 HO6 hb6;obtain⟨A6,n6,c6,hv6⟩:=ZbG HO6.out;subst hv6;have BD:=Lib.hid ((ST.out.alloc _).next HO6.out hb6 (by simp));have yf:=(ST.out.alloc (.cells #[.string (B n.name),.string (B n.text),.int .i64 n.set] 91)).m.same6 hb6 (Nat.lt_succ_self _);have y6:=yf.cell 3;have yl:=yf.lt;have yz:=yf.free 3;clear yf hb6 HO6)
    go_roundw
    case rel=>exact⟨k+1,_,by omega,by go_num,by rw [HT.out];exact BD⟩
    case measure=>simp [intOf];omega
  · obtain rfl:k=ns.length:=by omega
    obtain⟨q0,q1,q2,q3⟩:=ST.out.resc;go_wp2_with fail
    have F:=Bx.four ST.out.res;have hb:But (w.heap.size+1) wr.heap.size wr ((((wr.setCell ⟨w.heap.size+1,0,none⟩ (.string ⟨#[]⟩)).setCell ⟨w.heap.size+1,1,none⟩ (.string (B v))).setCell ⟨w.heap.size+1,2,none⟩ (.int .i64 vs)).setCell ⟨w.heap.size+1,3,none⟩ (.slice A0 n0 c0')):=
     ((((But.refl _ _ _).setCell (p:=⟨w.heap.size+1,0,none⟩) (.inr rfl) _).setCell (p:=⟨w.heap.size+1,1,none⟩) (.inr rfl) _).setCell (p:=⟨w.heap.size+1,2,none⟩) (.inr rfl) _).setCell (p:=⟨w.heap.size+1,3,none⟩) (.inr rfl) _
    have F2:=(((ST.out.res.put 0 (.string ⟨#[]⟩)).put 1 (.string (B v))).put 2 (.int .i64 vs)).put 3 (.slice A0 n0 c0');have hrw:Zg nxV (w.heap.size+2+1) wr (.slice A0 n0 c0') (ns.take ns.length):=Zg.of_own rfl ST.out.own ST.out.nil_;rw [List.take_length] at hrw;refine bodyPost_ret (results_cell_row rfl _ _ (w.heap.size+1) _ _ _ _ rfl F2 Tryz.underlying67 rfl (by kernel_rfl)) rfl ?_;rw [←HP.out];exact⟨_,rfl,(hrw.but hb (by omega)).low (by omega),ST.out.low.trans ((hb.mono ST.out.low.size).below (by omega))⟩
theorem Zb2 (p:Pg):(pgL p).length=6:=rfl
theorem ZgR:(Tryz.prog.info? 27).map (fun i=>(i.zero,i.size,i.bytes))=some (some (.agg #[.int .u8 0,.int .u64 0,.int .u32 0,.int .u32 0,.string ⟨#[]⟩,.string ⟨#[]⟩]),6,56):=by kernel_rfl
theorem ZgP (p:Pg):∀u∈pgL p,u.oneCell'=true:=by
 intro u hu;simp only [pgL,List.mem_cons,List.not_mem_nil,or_false] at hu;rcases hu with rfl|rfl|rfl|rfl|rfl|rfl<;>rfl
theorem ZgT (l:List Pg):(l.flatMap pgL).length=l.length*6:=ZcC 6 pgL Zb2 l
section
variable {ops:Array Oper} {rest:List Oper} {o:Oper} {a:Act} {Q:Exit→Act→World→Prop}
theorem Zm9 (hgd:o.guard=none)(s x:Operand)(ho:o.op= .call {callee:= .builtin .append,args:=#[s,x],argTypes:=#[34,34]}) (base:Nat) (v:Value) (L M:List Pg) (hs:a.eval s=v) (W:World) (ad:Addr) (c:Nat)
 (hown:W.ownsRow base 27 6 v L.length (L.flatMap pgL)) (hbase:base≤W.heap.size) (hlen:L.length≤16777216) (hlen2:M.length≤16777216) (hx:a.eval x= .slice (some ad) M.length c) (hnew:∀j u,(M.flatMap pgL)[j]? =some u→W.cell? (ad.add j)=some u)
 (h:∀v' w',Hid (w'.ownsRow base 27 6 v' (L++M).length ((L++M).flatMap pgL))→Below base W w'→W.grownBy w' v.ownBlock→wpList Tryz.prog ops Q rest (a.put o.dst v') w'):
 wpList Tryz.prog ops Q (o::rest) a W:=by
 obtain⟨i0,hi,iz0,iz1,iz2⟩:=info_parts ZgR;refine wpList_append_own _ hgd s x 34 ho base 27 i0 _ 6 56 Tryz.underlying34 hi iz0 iz1 iz2 rfl (by decide) v L.length _ hs hown ad M.length c (M.flatMap pgL) hx (ZgT M) hnew (fun u hu=>by obtain⟨p,_,hp⟩:=List.mem_flatMap.1 hu;exact ZgP p u hp) (by unfold maxLen;omega) (by omega) hbase ?_;intro v6 w6 hown6 hg6 _;refine h v6 w6 (Lib.hid ?_) (Z3 (Below.refl _ W) hown hg6 hbase (Nat.le_refl _)) hg6;rw [List.flatMap_append,List.length_append];exact hown6
end
theorem RdN.page {w:World} {B0:Nat} {A:Option Addr} {l:List Pg} (h:RdN 6 pgL w B0 A l){k:Nat} {x:Pg} (hk:l[k]? =some x):
 ∃ad,A=some ad∧ad.block<B0∧w.cell? (ad.add (k*6))=some (.int .u8 x.fl.toNat)∧w.cell? ⟨(ad.add (k*6)).block,(ad.add (k*6)).off+1,none⟩=some (.int .u64 (x.pos:Nat))∧
  w.cell? ⟨(ad.add (k*6)).block,(ad.add (k*6)).off+2,none⟩=some (.int .u32 (x.ser:Nat))∧w.cell? ⟨(ad.add (k*6)).block,(ad.add (k*6)).off+3,none⟩=some (.int .u32 (x.num:Nat))∧
  w.cell? ⟨(ad.add (k*6)).block,(ad.add (k*6)).off+4,none⟩=some (.string (B x.laces))∧w.cell? ⟨(ad.add (k*6)).block,(ad.add (k*6)).off+5,none⟩=some (.string (B x.body)):=by
 obtain⟨ad,hA,hb,hg⟩:=h.at_ Zb2 hk;have g0:=hg 0 _ (by omega) rfl;have g1:=hg 1 _ (by omega) rfl;have g2:=hg 2 _ (by omega) rfl;have g3:=hg 3 _ (by omega) rfl;have g4:=hg 4 _ (by omega) rfl;have g5:=hg 5 _ (by omega) rfl;rw [Nat.add_zero] at g0;rw [ZdB _ _ _ (by omega)] at g1 g2 g3 g4 g5;exact⟨ad,hA,hb,g0,g1,g2,g3,g4,g5⟩
theorem Zd9 (x y:UInt8):((x.toNat:Int)==(y.toNat:Int))=(x==y):=by
 by_cases h:x=y
 · subst h;simp
 · have h1:x.toNat≠y.toNat:=fun e=>h (UInt8.toNat_inj.1 e);rw [show(x==y)=false by simpa using h,beq_eq_false_iff_ne];omega
theorem ZcV (fl b:UInt8)(z:Int)(hz:z=b.toNat)(x1 x2 x3:Value)(w:World):
 Calls Tryz.prog 77 #[.agg #[.int .u8 fl.toNat,x1,x2,x3],.int .u8 z] w fun e w'=>e= .returned (.bool (fl&&&b==b))∧Below w.heap.size w w':=by
 subst hz;have e0:=and_u8 fl b.toNat b rfl;have e1:=Zd9 (fl&&&b) b;generalize (fl&&&b==b)=r at*;generalize ((fl&&&b).toNat:Int)=y at*;go_enter Tryz.func77,Tryz.ntmps77
 go_wp2_with fail
 go_ret
 exact⟨rfl,(Below.refl _ _).alloc (Nat.le_refl _) _⟩
def Zdg (l:List UInt8):Bool:=l.getLast? ==some 255
theorem Zpa:Zdg []=false:=rfl
theorem Zo9 {l:List UInt8} (h:l.length - 1<l.length):Zdg l=(l[l.length - 1]==255):=by
 unfold Zdg;rw [List.getLast?_eq_getElem?,List.getElem?_eq_getElem h];rfl
theorem Zme (p:Pg)(hp:PgFit p)(w:World):
 Calls Tryz.prog 82 #[.agg (pgA p)] w fun e w'=>e= .returned (.bool (Zdg p.laces))∧Below w.heap.size w w':=by
 obtain⟨fl,pos,ser,num,laces,body⟩:=p;have h4:=hp.laces;simp only at h4;have hs:=Zm laces;unfold pgA;simp only;by_cases h0:laces=[]
 · subst h0;rw [Zpa];go_enter Tryz.func82,Tryz.ntmps82
   go_wp2_with fail
   go_ret
   exact⟨rfl,(Below.refl _ _).alloc (Nat.le_refl _) _⟩
 · have hpos:0<laces.length:=List.length_pos_iff.mpr h0;have hlt:laces.length - 1<laces.length:=by omega
   rw [Zo9 hlt];have hg:=Zbp laces (laces.length - 1) hlt;have hq:=Zd9 laces[laces.length - 1] 255;rw [show(((255:UInt8).toNat:Nat):Int)=255 from rfl] at hq;have hw1:IntKind.i64.wrap ((laces.length:Int) - 1)=((laces.length - 1:Nat):Int):=by rw [IntKind.wrap_i64];omega
   have hd:decide (0<(laces.length:Int))=true:=decide_eq_true (by omega);have hd':0<(laces.length:Int):=by omega
   generalize laces[laces.length - 1]=x at*;generalize (x==255)=r at*;go_enter Tryz.func82,Tryz.ntmps82
   go_wp2_with fail
   go_ret
   exact⟨rfl,(Below.refl _ _).alloc (Nat.le_refl _) _⟩
theorem Zmm (l:List UInt8)(hl:l.length≤1000000000)(w:World):
 Calls Tryz.prog 80 #[.string (B l)] w fun e w'=>e= .returned (.int .i64 (Zc l:Nat))∧w=w':=by
 have hsz:=Zm l;go_enter Tryz.func80,Tryz.ntmps80
 go_wp2_with fail
 go_loop [3,7] (fun n i=>TtRel l n i) (fun _ i=>l.length - (intOf i).toNat)
 case atStart=>exact⟨0,Nat.zero_le _,rfl,rfl⟩
 case round=>
  obtain⟨k,hk,rfl,rfl⟩:=hrel;by_cases hlt:k<l.length
  · have hg:=Zbp l k hlt;have hs:=Zfo l k hlt;have hb:=ZbL (l.take k);rw [List.length_take,Nat.min_eq_left (by omega)] at hb;have hx:=l[k].toNat_lt;have Hs:=Lib.hid hs;clear hs;generalize Zc (l.take k)=N at*;generalize l[k]=x at*;go_wp2_with fail
    go_round
    case rel=>exact⟨k+1,by omega,by go_num,by rw [Hs.out];go_num⟩
    case measure=>simp [intOf];omega
  · have hk2:k=l.length:=by omega
    subst hk2;rw [List.take_length];go_wp2_with fail
    go_ret
    exact⟨rfl,rfl⟩
def EnRel (l:List UInt8)(i:Value):Prop:=∃k:Nat,k≤l.length∧i= .int .i64 k∧(l.take k).any (· !=255)=false
theorem Zmn (l:List UInt8)(hl:l.length≤1000000000)(w:World):
 Calls Tryz.prog 81 #[.string (B l)] w fun e w'=>e= .returned (.bool (l.any (· !=255)))∧w=w':=by
 have hsz:=Zm l;go_enter Tryz.func81,Tryz.ntmps81
 go_wp2_with fail
 go_loop [6] (fun i=>EnRel l i) (fun i=>l.length - (intOf i).toNat)
 case atStart=>exact⟨0,Nat.zero_le _,rfl,rfl⟩
 case round=>
  obtain⟨k,hk,rfl,hno⟩:=hrel;by_cases hlt:k<l.length
  · have hg:=Zbp l k hlt;have ht:l.take (k+1)=l.take k++[l[k]]:=List.take_succ_eq_append_getElem hlt;have hq:=Zd9 l[k] 255;rw [show(((255:UInt8).toNat:Nat):Int)=255 from rfl] at hq;by_cases hx:l[k]=255
    · have HT:Hid ((l.take (k+1)).any (· !=255)=false):=Lib.hid (by rw [ht,List.any_append,hno,hx];rfl);have hq2:((l[k].toNat:Int) !=255)=false:=by rw [hx];rfl
      clear ht hno hq;generalize l[k]=x at*;go_wp2_with fail
      go_round
      case rel=>exact⟨k+1,by omega,by go_num,HT.out⟩
      case measure=>simp [intOf];omega
    · have HT:Hid (l.any (· !=255)=true):=Lib.hid (List.any_eq_true.2 ⟨l[k],List.getElem_mem hlt,by simpa using hx⟩);have hq2:((l[k].toNat:Int) !=255)=true:=by rw [bne,hq,show(l[k]==255)=false by simpa using hx];rfl
      clear ht hno hq;generalize l[k]=x at*;go_wp2_with fail
      go_ret
      exact⟨by show Ending.returned (.bool true)=_;rw [HT.out],rfl⟩
  · have hk2:k=l.length:=by omega
    subst hk2;rw [List.take_length] at hno;go_wp2_with fail
    go_ret
    exact⟨rfl,rfl⟩
theorem Zmo (n:Nat)(hn:n≤1000000000)(w:World):
 Calls Tryz.prog 79 #[.int .i64 n] w fun e w'=>e= .returned (.string (B (Zu n)))∧Below w.heap.size w w':=by
 have hrp:∀w,Calls Tryz.prog 156 #[.string ⟨#[255]⟩,.int .i64 (n / 255:Nat)] w fun e w'=>e= .returned (.string (B (List.replicate (n / 255) 255)))∧Below w.heap.size w w':=fun w=>by
  have h:=Tryz.strings_Repeat ⟨#[255]⟩ (n / 255) w (by omega) (by show 1*(n / 255)≤_;omega);have e:∀k,Lib.repeatL (⟨#[255]⟩:ByteArray).data.toList k=List.replicate k 255:=fun k=>by
   induction k with
   |zero=>rfl
   |succ k ih=>rw [List.replicate_succ,←ih];rfl
  rw [e] at h;exact h
 have hjo:∀a b:List UInt8,B a++B b=B (a++b):=fun a b=>by apply ByteArray.ext;simp [B]
 have hbg:=fun w=>ZhE (n % 255) (by omega) w;have e1:max (n:Int) 0=n:=by omega
 have e2:(n:Int).tdiv 255=((n / 255:Nat):Int):=by rw [Int.tdiv_eq_ediv_of_nonneg (by omega)];rfl
 have e3:(n:Int).tmod 255=((n % 255:Nat):Int):=by rw [Int.tmod_eq_emod_of_nonneg (by omega)];rfl
 have hL:Zu n=List.replicate (n / 255) 255++[UInt8.ofNat (n % 255)]:=rfl;rw [hL];have hRl:(List.replicate (n / 255) (255:UInt8)).length=n / 255:=List.length_replicate;have hRs:=Zm (List.replicate (n / 255) (255:UInt8));rw [hRl] at hRs;have hbs:(B [UInt8.ofNat (n % 255)]).size=1:=Zm [UInt8.ofNat (n % 255)];generalize List.replicate (n / 255) (255:UInt8)=RL at*;generalize [UInt8.ofNat (n % 255)]=BL at*;have hq:n / 255≤10000000:=by omega
 have hr:n % 255<255:=by omega
 generalize n / 255=q at*;generalize n % 255=r at*;have w2:IntKind.i64.wrap (q:Int)=(q:Int):=by rw [IntKind.wrap_i64];omega
 have w3:IntKind.i64.wrap (r:Int)=(r:Int):=by rw [IntKind.wrap_i64];omega
 have w4:IntKind.u64.wrap (r:Int)=(r:Int):=by rw [IntKind.wrap_u64];omega
 have h5:decide ((2147483647:Int)≤(q:Int))=false:=decide_eq_false (by omega);have h5':¬(2147483647:Int)≤(q:Int):=by omega
 have h6:decide ((2147483647:Int)≤(n:Int).tdiv 255)=false:=by rw [e2];exact h5
 have h7:decide ((2147483647:Int)≤IntKind.i64.wrap ((n:Int).tdiv 255))=false:=by rw [e2,w2];exact h5
 have h8:IntKind.i64.wrap ((n:Int).tdiv 255)=q:=by rw [e2,w2]
 go_enter Tryz.func79,Tryz.ntmps79
 go_upto_region 1 with fail
 go_upto_region 2 with fail
 generalize (2147483647:Int)=c at*;go_wp2_with (first
  |(go_at_call 156;refine(hrp _).mono ?_;rintro e w1 ⟨rfl,hb1⟩)
  |(go_at_call 84;refine(hbg _).mono ?_;rintro e w2 ⟨rfl,hb2⟩))
 go_ret
 exact⟨rfl,hb1.trans (hb2.mono hb1.size)⟩
def Za6 (W:World)(v v':Value):Prop:=v'.ownBlock=v.ownBlock∨∃n,v'.ownBlock=some n∧W.heap.size≤n
section
variable {ops:Array Oper} {rest:List Oper} {o:Oper} {a:Act} {Q:Exit→Act→World→Prop}
theorem ZeO {W w':World} {ob:Obj} {row:Option Nat} (hg6:(W.alloc ob).grownBy w' row):W.grownBy w' row:=
 ⟨hg6.os,hg6.tape,hg6.output,by have:=hg6.size;simp at this;omega,fun k hk hc=>(hg6.block k (by simp;omega) hc).trans (Below.heap_alloc _ _ _ hk)⟩
theorem Zgs {W:World} {ob:Obj} {v v':Value} (h:v'.ownBlock=v.ownBlock∨v'.ownBlock=some (W.alloc ob).heap.size):Za6 W v v':=
 h.imp id fun e=>⟨_,e,by simp⟩
theorem ZdE (hgd:o.guard=none)(s x:Operand)(ho:o.op= .call {callee:= .builtin .append,args:=#[s,x],argTypes:=#[78,78]}) (base:Nat) (v:Value) (L:List (List UInt8)) (hs:a.eval s=v) (W:World) (y:List UInt8)
 (hown:W.ownsRow base 9 1 v L.length (L.map sV)) (hbase:base≤W.heap.size) (hlen:L.length≤16777216) (hx:a.eval x= .slice (some ⟨W.heap.size,0,none⟩) 1 1)
 (h:∀v' w',Hid (w'.ownsRow base 9 1 v' (L++[y]).length ((L++[y]).map sV))→Below base W w'→W.grownBy w' v.ownBlock→Za6 W v v'→wpList Tryz.prog ops Q rest (a.put o.dst v') w'):
 wpList Tryz.prog ops Q (o::rest) a (W.alloc (.cells #[.string (B y)] 9)):=by
 obtain⟨i0,hi,iz0,iz1,iz2⟩:=info_parts Zd0;refine wpList_append_own_at _ hgd s x 78 ho base 9 i0 _ 1 16 Tryz.underlying78 hi iz0 iz1 iz2 rfl (by decide) v L.length _ hs (hown.alloc _) ⟨W.heap.size,0,none⟩ 1 1 [sV y] hx rfl (Zco W [sV y] _) ?_ (by unfold maxLen;omega) (by omega) (by simp;omega) ?_
 · intro u hu;simp only [List.mem_singleton] at hu;subst hu;rfl
 · intro v6 w6 hown6 hg6 _ hat;refine h v6 w6 (Lib.hid ?_) (Z3 ((Below.refl _ W).alloc hbase _) (hown.alloc _) hg6 (by simp;omega) (Nat.le_refl _)) (ZeO hg6) (Zgs hat);rw [List.length_append,List.map_append];exact hown6
theorem ZfZ (hgd:o.guard=none)(s x:Operand)(ho:o.op= .call {callee:= .builtin .append,args:=#[s,x],argTypes:=#[34,34]}) (base:Nat) (v:Value) (L:List Pg) (hs:a.eval s=v) (W:World) (m:Pg) (cs:Array Value) (hcs:cs=(pgL m).toArray)
 (hown:W.ownsRow base 27 6 v L.length (L.flatMap pgL)) (hbase:base≤W.heap.size) (hlen:L.length≤16777216) (hx:a.eval x= .slice (some ⟨W.heap.size,0,none⟩) 1 1)
 (h:∀v' w',Hid (w'.ownsRow base 27 6 v' (L++[m]).length ((L++[m]).flatMap pgL))→Below base W w'→W.grownBy w' v.ownBlock→Za6 W v v'→wpList Tryz.prog ops Q rest (a.put o.dst v') w'):
 wpList Tryz.prog ops Q (o::rest) a (W.alloc (.cells cs 27)):=by
 obtain⟨i0,hi,iz0,iz1,iz2⟩:=info_parts ZgR;subst hcs;refine wpList_append_own_at _ hgd s x 34 ho base 27 i0 _ 6 56 Tryz.underlying34 hi iz0 iz1 iz2 rfl (by decide) v L.length _ hs (hown.alloc _) ⟨W.heap.size,0,none⟩ 1 1 (pgL m) hx rfl (Zco W (pgL m) _) (ZgP m) (by unfold maxLen;omega) (by omega) (by simp;omega) ?_;intro v6 w6 hown6 hg6 _ hat;refine h v6 w6 (Lib.hid ?_) (Z3 ((Below.refl _ W).alloc hbase _) (hown.alloc _) hg6 (by simp;omega) (Nat.le_refl _)) (ZeO hg6) (Zgs hat);rw [List.flatMap_append,List.length_append];simpa [pgL] using hown6
def iV (n:Int):Value:= .int .i64 n
theorem i_info:(Tryz.prog.info? 3).map (fun i=>(i.zero,i.size,i.bytes))=some (some (.int .i64 0),1,8):=by kernel_rfl
theorem Zm8 (hgd:o.guard=none)(s x:Operand)(ho:o.op= .call {callee:= .builtin .append,args:=#[s,x],argTypes:=#[125,125]}) (base:Nat) (v:Value) (L:List Int) (hs:a.eval s=v) (W:World) (y:Int)
 (hown:W.ownsRow base 3 1 v L.length (L.map iV)) (hbase:base≤W.heap.size) (hlen:L.length≤16777216) (hx:a.eval x= .slice (some ⟨W.heap.size,0,none⟩) 1 1)
 (h:∀v' w',Hid (w'.ownsRow base 3 1 v' (L++[y]).length ((L++[y]).map iV))→Below base W w'→W.grownBy w' v.ownBlock→Za6 W v v'→wpList Tryz.prog ops Q rest (a.put o.dst v') w'):
 wpList Tryz.prog ops Q (o::rest) a (W.alloc (.cells #[.int .i64 y] 3)):=by
 obtain⟨i0,hi,iz0,iz1,iz2⟩:=info_parts i_info;refine wpList_append_own_at _ hgd s x 125 ho base 3 i0 _ 1 8 Tryz.underlying125 hi iz0 iz1 iz2 rfl (by decide) v L.length _ hs (hown.alloc _) ⟨W.heap.size,0,none⟩ 1 1 [iV y] hx rfl (Zco W [iV y] _) ?_ (by unfold maxLen;omega) (by omega) (by simp;omega) ?_
 · intro u hu;simp only [List.mem_singleton] at hu;subst hu;rfl
 · intro v6 w6 hown6 hg6 _ hat;refine h v6 w6 (Lib.hid ?_) (Z3 ((Below.refl _ W).alloc hbase _) (hown.alloc _) hg6 (by simp;omega) (Nat.le_refl _)) (ZeO hg6) (Zgs hat);rw [List.length_append,List.map_append];exact hown6
end
def ZaA (v u:Value):Prop:=∀bk,v.ownBlock=some bk→u.ownBlock≠some bk
theorem ZaA.symm {v u:Value} (h:ZaA v u):ZaA u v:=fun bk h1 h2=>h bk h2 h1
theorem ZaA.nil {v:Value}:ZaA v (.slice none 0 0):=fun _ _ h=>by cases h
theorem ZaA.kept {v u:Value} (h:ZaA v u):u.ownBlock=none∨u.ownBlock≠v.ownBlock:=by
 cases e:u.ownBlock with
 |none=>exact .inl rfl
 |some b=>exact .inr fun h2=>h b h2.symm e
theorem ZaA.grow {W:World} {base:Nat} {e:TypeId} {m n:Nat} {xs:List Value} {v v' u:Value} (h:ZaA v u)(ho:W.ownsRow base e m u n xs)(hf:Za6 W v v'):ZaA v' u:=by
 intro bk h1 h2;rcases hf with hf|⟨k,hf,hk⟩
 · exact h bk (hf.symm.trans h1) h2
 · have e:k=bk:=by rw [hf] at h1;injection h1
   have:=(ho.lt bk h2).2;omega
theorem Zji {W:World} {v v':Value} {g:Nat} (h:v.ownBlock≠some g)(hg:g<W.heap.size)(hf:Za6 W v v'):v'.ownBlock≠some g:=by
 intro h1;rcases hf with hf|⟨k,hf,hk⟩
 · exact h (hf.symm.trans h1)
 · have e:k=g:=by rw [hf] at h1;injection h1
   omega
theorem Zdi {W:World} {base:Nat} {e:TypeId} {m n:Nat} {xs:List Value} {v:Value} (ho:W.ownsRow base e m v n xs):v.ownBlock≠some W.heap.size:=fun h=>by
 have:=(ho.lt _ h).2;omega
structure JoSt (w wr:World)(v4 v5:Value)(dn PL:List (List UInt8)):Prop where
 res:Bx wr w.heap.size #[.int .i64 0,.int .i64 0] 45
 o4:ZY (w.heap.size+1) wr v4 dn
 o5:ZY (w.heap.size+1) wr v5 PL
 z4:dn=[]→v4= .slice none 0 0
 ne:ZaA v4 v5
 low:Below w.heap.size w wr
section
variable {w wr wy:World} {v4 v5 v':Value} {dn PL:List (List UInt8)} {x:List UInt8} {G:Nat} {p:Pg}
theorem JoSt.below (h:JoSt w wr v4 v5 dn PL)(hb:Below wr.heap.size wr wy):JoSt w wy v4 v5 dn PL:=
 ⟨h.res.below hb,h.o4.below hb,h.o5.below hb,h.z4,h.ne,h.low.trans (hb.mono h.low.size)⟩
theorem JoSt.size (h:JoSt w wr v4 v5 dn PL):w.heap.size+1≤wr.heap.size:=by have:=h.res.lt;omega
theorem JoSt.grow4 (h:JoSt w wr v4 v5 dn PL)(ho:ZY (w.heap.size+1) wy v' (dn++[x]))(hb:Below (w.heap.size+1) wr wy)(hg:wr.grownBy wy v4.ownBlock)(hf:Za6 wr v4 v'):JoSt w wy v' v5 (dn++[x]) PL:=
 ⟨h.res.same6 hb (by omega),ho,World.ownsRow.kept h.o5 hg h.ne.kept,fun e=>absurd e (by simp),h.ne.grow h.o5 hf,h.low.trans (hb.mono (by omega))⟩
theorem JoSt.grow5 (h:JoSt w wr v4 v5 dn PL)(ho:ZY (w.heap.size+1) wy v' (PL++[x]))(hb:Below (w.heap.size+1) wr wy)(hg:wr.grownBy wy v5.ownBlock)(hf:Za6 wr v5 v'):JoSt w wy v4 v' dn (PL++[x]):=
 ⟨h.res.same6 hb (by omega),World.ownsRow.kept h.o4 hg h.ne.symm.kept,ho,h.z4,(h.ne.symm.grow h.o4 hf).symm,h.low.trans (hb.mono (by omega))⟩
theorem ZY.nil {b:Nat} {w:World}:ZY b w (.slice none 0 0) []:=⟨rfl,.inl ⟨rfl,rfl⟩⟩
theorem JoSt.nil5 (h:JoSt w wr v4 v5 dn PL):JoSt w wr v4 (.slice none 0 0) dn []:=⟨h.res,h.o4,ZY.nil,h.z4,ZaA.nil,h.low⟩
theorem JoSt.mk0 (w:World):JoSt w (w.alloc (.cells #[.int .i64 0,.int .i64 0] 45)) (.slice none 0 0) (.slice none 0 0) [] []:=
 ⟨Bx.new w _ _,ZY.nil,ZY.nil,fun _=>rfl,ZaA.nil,(Below.refl _ _).alloc (Nat.le_refl _) _⟩
structure JnSt (w wr:World)(G:Nat)(p:Pg)(v4 v5:Value)(dn PL:List (List UInt8)):Prop where
 s:JoSt w wr v4 v5 dn PL
 pg:Bx wr G (pgA p) 27
 n4:v4.ownBlock≠some G
 n5:v5.ownBlock≠some G
 hG:w.heap.size<G
theorem JnSt.below (h:JnSt w wr G p v4 v5 dn PL)(hb:Below wr.heap.size wr wy):JnSt w wy G p v4 v5 dn PL:=⟨h.s.below hb,h.pg.below hb,h.n4,h.n5,h.hG⟩
theorem JoSt.page (h:JoSt w wr v4 v5 dn PL)(p:Pg):JnSt w (wr.alloc (.cells (pgA p) 27)) wr.heap.size p v4 v5 dn PL:=
 ⟨h.below ((Below.refl _ _).alloc (Nat.le_refl _) _),Bx.new wr _ _,Zdi h.o4,Zdi h.o5,by have:=h.size;omega⟩
theorem ZdG {g:Nat} {cs:Array Value} {T:TypeId} {v:Value} (h:Bx wr g cs T)(hg:wr.grownBy wy v.ownBlock)(hn:v.ownBlock≠some g):Bx wy g cs T:=(hg.block g h.lt (fun e=>hn e.symm)).trans h
theorem JnSt.grow4 (h:JnSt w wr G p v4 v5 dn PL)(ho:ZY (w.heap.size+1) wy v' (dn++[x]))(hb:Below (w.heap.size+1) wr wy)(hg:wr.grownBy wy v4.ownBlock)(hf:Za6 wr v4 v'):JnSt w wy G p v' v5 (dn++[x]) PL:=
 ⟨h.s.grow4 ho hb hg hf,ZdG h.pg hg h.n4,Zji h.n4 h.pg.lt hf,h.n5,h.hG⟩
theorem JnSt.grow5 (h:JnSt w wr G p v4 v5 dn PL)(ho:ZY (w.heap.size+1) wy v' (PL++[x]))(hb:Below (w.heap.size+1) wr wy)(hg:wr.grownBy wy v5.ownBlock)(hf:Za6 wr v5 v'):JnSt w wy G p v4 v' dn (PL++[x]):=
 ⟨h.s.grow5 ho hb hg hf,ZdG h.pg hg h.n5,h.n4,Zji h.n5 h.pg.lt hf,h.hG⟩
theorem JnSt.nil5 (h:JnSt w wr G p v4 v5 dn PL):JnSt w wr G p v4 (.slice none 0 0) dn []:=⟨h.s.nil5,h.pg,h.n4,fun e=>(by cases e),h.hG⟩
theorem JnSt.cells (h:JnSt w wr G p v4 v5 dn PL):(wr.cell? ⟨G,0,none⟩=some (.int .u8 p.fl.toNat)∧wr.cell? ⟨G,1,none⟩=some (.int .u64 (p.pos:Nat))∧wr.cell? ⟨G,2,none⟩=some (.int .u32 (p.ser:Nat))∧wr.cell? ⟨G,3,none⟩=some (.int .u32 (p.num:Nat))∧wr.cell? ⟨G,4,none⟩=some (.string (B p.laces))∧wr.cell? ⟨G,5,none⟩=some (.string (B p.body)))∧
 (wr.cell? ⟨w.heap.size,0,none⟩=some (.int .i64 0)∧wr.cell? ⟨w.heap.size,1,none⟩=some (.int .i64 0))∧(∀j,wr.frozen? ⟨w.heap.size,j,none⟩=false)∧w.heap.size<wr.heap.size∧G<wr.heap.size:=
 ⟨⟨h.pg.cell 0,h.pg.cell 1,h.pg.cell 2,h.pg.cell 3,h.pg.cell 4,h.pg.cell 5⟩,⟨h.s.res.cell 0,h.s.res.cell 1⟩,h.s.res.free,h.s.res.lt,h.pg.lt⟩
theorem JoSt.cells (h:JoSt w wr v4 v5 dn PL):(wr.cell? ⟨w.heap.size,0,none⟩=some (.int .i64 0)∧wr.cell? ⟨w.heap.size,1,none⟩=some (.int .i64 0))∧(∀j,wr.frozen? ⟨w.heap.size,j,none⟩=false)∧w.heap.size<wr.heap.size:=
 ⟨⟨h.res.cell 0,h.res.cell 1⟩,h.res.free,h.res.lt⟩
theorem JoSt.fin (h:JoSt w wr v4 v5 dn PL)(a b:Value):Bx ((wr.setCell ⟨w.heap.size,0,none⟩ a).setCell ⟨w.heap.size,1,none⟩ b) w.heap.size #[a,b] 45∧Below w.heap.size w ((wr.setCell ⟨w.heap.size,0,none⟩ a).setCell ⟨w.heap.size,1,none⟩ b):=
 ⟨Za9 h.res a b,(h.low.setCell (p:=⟨w.heap.size,0,none⟩) (Nat.le_refl _) a).setCell (p:=⟨w.heap.size,1,none⟩) (Nat.le_refl _) b⟩
theorem JoSt.rows (h:JoSt w wr v4 v5 dn PL)(a b:Value):Zg (fun y=>[sV y]) w.heap.size ((wr.setCell ⟨w.heap.size,0,none⟩ a).setCell ⟨w.heap.size,1,none⟩ b) v4 dn:=
 ((Zg.set (Zg.set (Zg.of_own (e:=9) (m:=1) rfl (by rw [Zgq];exact h.o4) h.z4) (Nat.lt_succ_self _) 0 a) (Nat.lt_succ_self _) 1 b).low (Nat.le_succ _))
end
def ZcE (d:List (List UInt8)):Except Nat (List (List UInt8))→Except Nat (List (List UInt8))
 | .error k=> .error k
 | .ok r=> .ok (d++r)
theorem Zoz (x:Except Nat (List (List UInt8))):ZcE [] x=x:=by cases x<;>rfl
theorem Zoy (a b:List (List UInt8))(x:Except Nat (List (List UInt8))):ZcE a (ZcE b x)=ZcE (a++b) x:=by
 cases x with
 |error k=>rfl
 |ok r=>show Except.ok _=Except.ok _;rw [List.append_assoc]
def ZbZ (op:Bool)(l:List UInt8):Bool:=match l.getLast? with
 |none=>op
 |some x=>x==255
theorem Zjx (op:Bool)(acc:List UInt8)(i:Nat)(p:Pg)(l:List Pg)(h:Zab p≠(0,0)∨(p.fl&&&1==1)≠op):ZI op acc i (p::l)= .error i:=by
 unfold ZI;rw [if_pos];rcases h with h|h
 · by_cases h1:255<p.laces.length
   · exact .inl h1
   · by_cases h2:p.body.length=Zc p.laces
     · exact absurd (Zf8 (by omega) h2) h
     · exact .inr (.inl h2)
 · exact .inr (.inr h)
theorem Zox (op:Bool)(acc:List UInt8)(i:Nat)(p:Pg)(l:List Pg)(h:Zab p=(0,0))(h2:(p.fl&&&1==1)=op):
 ZI op acc i (p::l)=ZcE (ZE acc p.laces p.body).1 (ZI (ZbZ op p.laces) (ZE acc p.laces p.body).2 (i+1) l):=by
 obtain⟨h3,h4⟩:=ZeA h
 conv=>lhs;unfold ZI
 rw [if_neg (by rintro(h|h|h); · omega
                · exact h h4
                · exact h h2)]
 unfold ZbZ ZcE;rfl
theorem Zo8 (op:Bool)(l:List UInt8)(j:Nat)(h:j<l.length):ZbZ op (l.take (j+1))=(l[j]==255):=by
 unfold ZbZ;rw [List.take_succ_eq_append_getElem h,List.getLast?_concat]
theorem ZnA (acc l b:List UInt8)(j:Nat)(h:j<l.length):
 ZE acc (l.take (j+1)) (b.take (Zc (l.take (j+1))))=
  if l[j]=255 then((ZE acc (l.take j) (b.take (Zc (l.take j)))).1,(ZE acc (l.take j) (b.take (Zc (l.take j)))).2++(b.drop (Zc (l.take j))).take l[j].toNat)
  else((ZE acc (l.take j) (b.take (Zc (l.take j)))).1++[(ZE acc (l.take j) (b.take (Zc (l.take j)))).2++(b.drop (Zc (l.take j))).take l[j].toNat],[]):=by
 rw [Zfo l j h,List.take_succ_eq_append_getElem h,ZeB];have e1:(b.take (Zc (l.take j)+l[j].toNat)).take (Zc (l.take j))=b.take (Zc (l.take j)):=by rw [List.take_take,Nat.min_eq_left (by omega)]
 have e2:(b.take (Zc (l.take j)+l[j].toNat)).drop (Zc (l.take j))=(b.drop (Zc (l.take j))).take l[j].toNat:=by rw [List.drop_take];congr 1;omega
 rw [e1,e2];have e3:((b.drop (Zc (l.take j))).take l[j].toNat).take l[j].toNat=(b.drop (Zc (l.take j))).take l[j].toNat:=by rw [List.take_take,Nat.min_self]
 have hc:∀(x:UInt8) (a y:List UInt8),ZE a [x] y=if x=255 then([],a++y.take x.toNat) else([a++y.take x.toNat],[]):=fun x a y=>by simp only [ZE]
 rw [hc,e3];split<;>simp
end Go.Proofs.YtnbkfkbcpfkddaaGreatDoor
