/- Lemmas for a statement on the tops; conditions: as each says. -/
import Derived.Test.YtlglfmbccihopaaGreatDoorM32
import Derived.Test.YtlglfmbccihopaaGreatDoorM33
set_option linter.unusedVariables false
set_option linter.unusedSimpArgs false
set_option maxRecDepth 100000
set_option maxHeartbeats 4000000
namespace Go.Proofs.YtlglfmbccihopaaGreatDoor
open Go Go.RowKit
theorem Zrz:(Tryz.prog.info? 72).map (fun i=>(i.zero,i.size,i.bytes))=some (some (.agg #[.int .u8 0,.string ⟨#[]⟩]),2,24):=by kernel_rfl
section
variable {ops:Array Oper} {rest:List Oper} {o:Oper} {a:Act} {Q:Exit→Act→World→Prop}
theorem ZjN (hgd:o.guard=none)(s x:Operand)(ho:o.op= .call {callee:= .builtin .append,args:=#[s,x],argTypes:=#[22,22]}) (base:Nat) (v:Value) (L:List Mx) (hs:a.eval s=v) (W:World) (m:Mx) (cs:Array Value) (hcs:cs=(mxV m).toArray)
 (hown:W.ownsRow base 72 2 v L.length (L.flatMap mxV)) (hbase:base≤W.heap.size) (hlen:L.length≤16777216) (hx:a.eval x= .slice (some ⟨W.heap.size,0,none⟩) 1 1)
 (h:∀v' w',Hid (w'.ownsRow base 72 2 v' (L++[m]).length ((L++[m]).flatMap mxV))→Below base W w'→W.grownBy w' v.ownBlock→wpList Tryz.prog ops Q rest (a.put o.dst v') w'):
 wpList Tryz.prog ops Q (o::rest) a (W.alloc (.cells cs 72)):=by
 obtain⟨i0,hi,iz0,iz1,iz2⟩:=info_parts Zrz;subst hcs;refine wpList_append_own _ hgd s x 22 ho base 72 i0 _ 2 24 Tryz.underlying22 hi iz0 iz1 iz2 rfl (by decide) v L.length _ hs (hown.alloc _) ⟨W.heap.size,0,none⟩ 1 1 (mxV m) hx rfl (Zdl W (mxV m) _) ?_ (by unfold maxLen;omega) (by omega) (by simp;omega) ?_
 · intro u hu;simp only [mxV,List.mem_cons,List.not_mem_nil,or_false] at hu;rcases hu with rfl|rfl<;>rfl
 · intro v6 w6 hown6 hg6 _;refine h v6 w6 (Lib.hid ?_) (Zad ((Below.refl _ W).alloc hbase _) (hown.alloc _) hg6 (by simp;omega) (Nat.le_refl _)) ⟨hg6.os,hg6.tape,hg6.output,by have:=hg6.size;simp at this;omega,fun k hk hc=>(hg6.block k (by simp;omega) hc).trans (Below.heap_alloc _ _ _ hk)⟩;rw [List.flatMap_append,List.length_append];simpa [mxV] using hown6
end
theorem ZrM {base B0:Nat} {W W':World} {v s:Value} {L:List Mx} {ns:List Nt} (hown:W.ownsRow base 72 2 v L.length (L.flatMap mxV))(hn:L=[]→v= .slice none 0 0)(hg:W.grownBy W' v.ownBlock)(h:Zg ntV B0 W s ns):Zg ntV B0 W' s ns:=by
 rcases h with h|⟨bk,c,h0,h1,h2,h5,h3,h4⟩
 · exact .inl h
 · have hne:v.ownBlock≠some bk:=by
    intro e;by_cases hL:L=[]
    · rw [hn hL] at e;cases e
    · obtain⟨x,hx⟩:∃x,L[0]? =some x:=by
       cases L with
       |nil=>exact absurd rfl hL
       |cons a l=>exact⟨a,rfl⟩
      rcases Zg.of_own (f:=mxV) rfl hown hn with⟨q,_⟩|⟨g,cap,q0,q1,q2,q3,q4,q5⟩
      · exact hL q
      · subst q1;have hgb:g=bk:=by simpa [Value.ownBlock] using e
        subst hgb;have a1:=q5 0 _ ((Zel 2 mxV Zet L 0 0 x hx (by omega)).trans rfl);obtain⟨p,hp⟩:∃p,ns[0]? =some p:=by
         cases ns with
         |nil=>exact absurd rfl h0
         |cons a l=>exact⟨a,rfl⟩
        have a2:=h4 0 _ ((Zel 3 ntV ZrL ns 0 0 p hp (by omega)).trans rfl);rw [a1] at a2;cases a2
   refine .inr ⟨bk,c,h0,h1,h2,h5,Nat.lt_of_lt_of_le h3 hg.size,fun j u hu=> ?_⟩;have hb:=hg.block bk h3 (fun e=>hne e.symm);rw [←h4 j u hu];unfold World.cell?;rw [hb]
theorem Zau {α:Type} {f:α→List Value} {B0:Nat} {w:World} {v:Value} {l:List α} (h:Zg f B0 w v l){g:Nat} (hg:g<B0)(j:Nat)(u:Value):Zg f B0 (w.setCell ⟨g,j,none⟩ u) v l:=
 h.but ((But.refl g w.heap.size w).setCell (p:=⟨g,j,none⟩) (.inr rfl) u) hg
def zFl:Array Value:=#[.slice none 0 0,.string ⟨#[]⟩,.int .i64 0,.slice none 0 0,.int .i64 0,.string ⟨#[]⟩]
def Zas (nt:Option (Nat×Bk)):List UInt8:=match nt with|none=>[]|some p=>p.2.vendor.text
def Zar (nt:Option (Nat×Bk)):Nat:=match nt with|none=>0|some p=>p.2.vendor.set
def ntNs (nt:Option (Nat×Bk)):List Nt:=match nt with|none=>[]|some p=>p.2.notes
def Zaf (nt:Option (Nat×Bk)):Int:=match nt with|none=> -1|some p=>(p.1:Nat)
structure LfSt (w0 wx:World)(K F:Nat)(OA:Array Value)(ms:List Mx)(vl:Value)(tx:List UInt8)(st:Nat)(vn:Value)(ns:List Nt)(at_:Int)(s:InS):Prop where
 o:Bx wx w0.heap.size OA 33
 rf:Bx wx (w0.heap.size+1) zFl 30
 re:Bx wx (w0.heap.size+2) #[.int .i64 0,.int .i64 0] 39
 inn:InAt wx K s
 ff:Bx wx F #[vl,.string (B tx),.int .i64 st,vn,.int .i64 at_,.string ⟨#[]⟩] 30
 own:wx.ownsRow (F+1) 72 2 vl ms.length (ms.flatMap mxV)
 nil_:ms=[]→vl= .slice none 0 0
 nts:Zg ntV (F+1) wx vn ns
 low:Below w0.heap.size w0 wx
 hK:w0.heap.size+3≤K
 hF:K<F
section
variable {w0 w w':World} {K F:Nat} {OA:Array Value} {ms:List Mx} {vl vn:Value} {tx:List UInt8} {st:Nat} {ns:List Nt} {at_:Int} {s s':InS}
theorem LfSt.below (h:LfSt w0 w K F OA ms vl tx st vn ns at_ s)(hb:Below w.heap.size w w'):LfSt w0 w' K F OA ms vl tx st vn ns at_ s:=
 ⟨h.o.below hb,h.rf.below hb,h.re.below hb,h.inn.below hb,h.ff.below hb,ZE h.own hb,h.nil_,h.nts.below hb,h.low.trans (hb.mono h.low.size),h.hK,h.hF⟩
theorem LfSt.alloc (h:LfSt w0 w K F OA ms vl tx st vn ns at_ s)(ob:Obj):LfSt w0 (w.alloc ob) K F OA ms vl tx st vn ns at_ s:=h.below ((Below.refl _ _).alloc (Nat.le_refl _) _)
theorem LfSt.butK (h:LfSt w0 w K F OA ms vl tx st vn ns at_ s)(hi:InAt w' K s')(hb:But K w.heap.size w w'):LfSt w0 w' K F OA ms vl tx st vn ns at_ s':=by
 have h1:=h.hK;have h2:=h.hF;exact⟨h.o.but hb (by omega),h.rf.but hb (by omega),h.re.but hb (by omega),hi,h.ff.but hb (by omega),Zb8 h.own hb (by omega),h.nil_,h.nts.but hb (by omega),h.low.trans ((hb.mono h.low.size).below (by omega)),h1,h2⟩
theorem LfSt.cells {a b c d:Value} (h:LfSt w0 w K F #[a,b,c,d] ms vl tx st vn ns at_ s):
 (w.cell? ⟨w0.heap.size,0,none⟩=some a∧w.cell? ⟨w0.heap.size,1,none⟩=some b∧w.cell? ⟨w0.heap.size,2,none⟩=some c∧w.cell? ⟨w0.heap.size,3,none⟩=some d)∧
 (w.cell? ⟨F,0,none⟩=some vl∧w.cell? ⟨F,1,none⟩=some (.string (B tx))∧w.cell? ⟨F,2,none⟩=some (.int .i64 st)∧w.cell? ⟨F,3,none⟩=some vn∧w.cell? ⟨F,4,none⟩=some (.int .i64 at_)∧w.cell? ⟨F,5,none⟩=some (.string ⟨#[]⟩))∧
 (∀j,w.frozen? ⟨F,j,none⟩=false)∧F<w.heap.size:=
 ⟨⟨h.o.cell 0,h.o.cell 1,h.o.cell 2,h.o.cell 3⟩,⟨h.ff.cell 0,h.ff.cell 1,h.ff.cell 2,h.ff.cell 3,h.ff.cell 4,h.ff.cell 5⟩,h.ff.free,h.ff.lt⟩
theorem LfSt.note (h:LfSt w0 w K F OA ms vl tx st vn ns at_ s)(k:Bk)(u:Value)(hu:Zg ntV (F+1) w u k.notes)(n:Nat):
 LfSt w0 ((((w.setCell ⟨F,1,none⟩ (.string (B k.vendor.text))).setCell ⟨F,2,none⟩ (.int .i64 (k.vendor.set:Nat))).setCell ⟨F,3,none⟩ u).setCell ⟨F,4,none⟩ (.int .i64 n)) K F OA ms vl k.vendor.text k.vendor.set u k.notes n s:=by
 have h1:=h.hK;have h2:=h.hF;have hb:But F w.heap.size w ((((w.setCell ⟨F,1,none⟩ (.string (B k.vendor.text))).setCell ⟨F,2,none⟩ (.int .i64 (k.vendor.set:Nat))).setCell ⟨F,3,none⟩ u).setCell ⟨F,4,none⟩ (.int .i64 n)):=
  ((((But.refl _ _ _).setCell (p:=⟨F,1,none⟩) (.inr rfl) _).setCell (p:=⟨F,2,none⟩) (.inr rfl) _).setCell (p:=⟨F,3,none⟩) (.inr rfl) _).setCell (p:=⟨F,4,none⟩) (.inr rfl) _
 exact⟨h.o.but hb (by omega),h.rf.but hb (by omega),h.re.but hb (by omega),h.inn.but hb (by omega),(((h.ff.put 1 _).put 2 _).put 3 _).put 4 _,Zb8 h.own hb (by omega),h.nil_,hu.but hb (by omega),h.low.trans ((hb.mono h.low.size).below (by omega)),h1,h2⟩
theorem LfSt.next {v6:Value} {ms2:List Mx} (h:LfSt w0 w K F OA ms vl tx st vn ns at_ s)(ho:w'.ownsRow (F+1) 72 2 v6 (ms++ms2).length ((ms++ms2).flatMap mxV))(hb:Below (F+1) w w')(hg:w.grownBy w' vl.ownBlock)(hne:ms++ms2≠[]):
 LfSt w0 (w'.setCell ⟨F,0,none⟩ v6) K F OA (ms++ms2) v6 tx st vn ns at_ s:=by
 have h1:=h.hK;have h2:=h.hF;have hbt:But F w'.heap.size w' (w'.setCell ⟨F,0,none⟩ v6):=(But.refl _ _ _).setCell (p:=⟨F,0,none⟩) (.inr rfl) _;exact⟨(h.o.same6 hb (by omega)).set (by omega) 0 _,(h.rf.same6 hb (by omega)).set (by omega) 0 _,(h.re.same6 hb (by omega)).set (by omega) 0 _,(h.inn.same (hb.block _ (by omega))).set (by omega) 0 _,(h.ff.same6 hb (by omega)).put 0 _,Zb8 ho hbt (by omega),fun e=>absurd e hne,
  Zau (ZrM h.own h.nil_ hg h.nts) (by omega) 0 _,(h.low.trans (hb.mono (by omega))).setCell (p:=⟨F,0,none⟩) (by show w0.heap.size≤F;omega) _,h1,h2⟩
end
theorem rows_block {α:Type} {f:α→List Value} {B0:Nat} {w:World} {v:Value} {l:List α} (h:Zg f B0 w v l):∀bk,v.ownBlock=some bk→B0≤bk∧bk<w.heap.size:=by
 intro bk hbk;rcases h with⟨_,hh⟩|⟨b2,c2,_,hh,_,hB,hlt,_⟩
 · subst hh;simp [Value.ownBlock] at hbk
 · subst hh;simp only [Value.ownBlock,Option.some.injEq] at hbk;subst hbk;exact⟨hB,hlt⟩
theorem Zub {w:World} {g:Nat} {T:TypeId} (h:Bx w g zFl T):w.cell? ⟨g,0,none⟩=some (.slice none 0 0)∧w.cell? ⟨g,1,none⟩=some (.string ⟨#[]⟩)∧w.cell? ⟨g,2,none⟩=some (.int .i64 0)∧w.cell? ⟨g,3,none⟩=some (.slice none 0 0)∧w.cell? ⟨g,4,none⟩=some (.int .i64 0)∧w.cell? ⟨g,5,none⟩=some (.string ⟨#[]⟩)∧
 w.frozen? ⟨g,0,none⟩=false∧w.frozen? ⟨g,1,none⟩=false∧w.frozen? ⟨g,2,none⟩=false∧w.frozen? ⟨g,3,none⟩=false∧w.frozen? ⟨g,4,none⟩=false∧w.frozen? ⟨g,5,none⟩=false:=
 ⟨h.cell 0,h.cell 1,h.cell 2,h.cell 3,h.cell 4,h.cell 5,h.free 0,h.free 1,h.free 2,h.free 3,h.free 4,h.free 5⟩
theorem ZsA {α:Type} {f:α→List Value} {B0 M:Nat} {w:World} {v:Value} {l:List α} (h:Zg f B0 w v l)(hne:∀bk,v.ownBlock=some bk→bk≠M)(u:Value)(j:Nat):Zg f B0 (w.setCell ⟨M,j,none⟩ u) v l:=by
 rcases h with h|⟨bk,c,h0,h1,h2,h5,h3,h4⟩
 · exact .inl h
 · refine .inr ⟨bk,c,h0,h1,h2,h5,by simpa [World.setCell] using h3,fun j u hu=> ?_⟩;have hk:=hne bk (by rw [h1];rfl);rw [←h4 j u hu];unfold World.cell?;rw [heap_setCell_other _ _ _ _ hk]
theorem LfSt.setM {w0 w:World} {K F M:Nat} {OA:Array Value} {ms:List Mx} {vl vn:Value} {tx:List UInt8} {st:Nat} {ns:List Nt} {at_:Int} {s:InS} (h:LfSt w0 w K F OA ms vl tx st vn ns at_ s)(hM:F<M)(h1:∀bk,vl.ownBlock=some bk→bk≠M)(h2:∀bk,vn.ownBlock=some bk→bk≠M)(j:Nat)(u:Value):
 LfSt w0 (w.setCell ⟨M,j,none⟩ u) K F OA ms vl tx st vn ns at_ s:=by
 have hK:=h.hK;have hF:=h.hF;have hbt:But M w.heap.size w (w.setCell ⟨M,j,none⟩ u):=(But.refl _ _ _).setCell (p:=⟨M,j,none⟩) (.inr rfl) _;exact⟨h.o.set (by omega) j u,h.rf.set (by omega) j u,h.re.set (by omega) j u,h.inn.set (by omega) j u,h.ff.set (by omega) j u,
  h.own.kept (row:=some M) (ZpS hbt) (.inr fun e=>h1 M e rfl),h.nil_,ZsA h.nts h2 u j,h.low.setCell (p:=⟨M,j,none⟩) (by show w0.heap.size≤M;omega) u,hK,hF⟩
structure LpSt (w0 wx:World)(OA:Array Value):Prop where
 o:Bx wx w0.heap.size OA 33
 rf:Bx wx (w0.heap.size+1) zFl 30
 re:Bx wx (w0.heap.size+2) #[.int .i64 0,.int .i64 0] 39
 low:Below w0.heap.size w0 wx
theorem LpSt.hz {w0 wx:World} {OA:Array Value} (h:LpSt w0 wx OA):w0.heap.size+3≤wx.heap.size:=h.re.lt
theorem LpSt.below {w0 wx wy:World} {OA:Array Value} (h:LpSt w0 wx OA)(hb:Below wx.heap.size wx wy):LpSt w0 wy OA:=⟨h.o.below hb,h.rf.below hb,h.re.below hb,h.low.trans (hb.mono h.low.size)⟩
theorem LpSt.but {w0 wx wy:World} {OA:Array Value} {K:Nat} (h:LpSt w0 wx OA)(hb:But K wx.heap.size wx wy)(hK:w0.heap.size+3≤K):LpSt w0 wy OA:=
 ⟨h.o.but hb (by omega),h.rf.but hb (by omega),h.re.but hb (by omega),h.low.trans ((hb.mono h.low.size).below (by omega))⟩
theorem LpSt.mk0 (w:World)(OA:Array Value):LpSt w (((w.alloc (.cells OA 33)).alloc (.cells #[.slice none 0 0,.string ⟨#[]⟩,.int .i64 0,.slice none 0 0,.int .i64 0,.string ⟨#[]⟩] 30)).alloc (.cells #[.int .i64 0,.int .i64 0] 39)) OA:=by
 have e1:=Bx.new w OA 33;have e2:=Bx.new (w.alloc (.cells OA 33)) zFl 30;rw [World.size_alloc] at e2;have e3:=Bx.new ((w.alloc (.cells OA 33)).alloc (.cells zFl 30)) #[.int .i64 0,.int .i64 0] 39;rw [World.size_alloc,World.size_alloc] at e3;exact⟨(e1.alloc _).alloc _,e2.alloc _,e3,(((Below.refl _ w).alloc (Nat.le_refl _) _).alloc (by simp) _).alloc (by simp;omega) _⟩
theorem LpSt.mkF {w0 wx:World} {OA:Array Value} {K:Nat} {s:InS} (h:LpSt w0 wx OA)(hi:InAt wx K s)(hK:w0.heap.size+3≤K):
 LfSt w0 (wx.alloc (.cells #[.slice none 0 0,.string ⟨#[]⟩,.int .i64 0,.slice none 0 0,.int .i64 (-1),.string ⟨#[]⟩] 30)) K wx.heap.size OA [] (.slice none 0 0) [] 0 (.slice none 0 0) [] (-1) s:=by
 have hlt:=hi.lt;exact⟨h.o.alloc _,h.rf.alloc _,h.re.alloc _,hi.alloc _,Bx.new _ _ _,⟨rfl,.inl ⟨rfl,rfl⟩⟩,fun _=>rfl,.inl ⟨rfl,rfl⟩,h.low.alloc h.low.size _,hK,hlt⟩
def FlRel (w0:World)(K F:Nat)(OA:Array Value)(lf:List UInt8→Except (Nat×Nat) Lf)(len:Nat)(q:List Mt×Option (Nat×Bk)×InS)(b:Value)(wx:World):Prop:=
 ∃(ms:List Mx) (nt:Option (Nat×Bk)) (s:InS) (vl vn:Value),Hid (LfSt w0 wx K F OA ms vl (Zas nt) (Zar nt) vn (ntNs nt) (Zaf nt) s)∧s.t.length=len∧
  ((b= .bool false∧ms.length≤4096∧Hid (∃fu rest,Zba lf fu s ms.length nt= .ok (rest,q.2)∧q.1=ms.map Mx.mt++rest))∨(b= .bool true∧ms.length≤4097∧Hid (q.1=ms.map Mx.mt∧q.2=(nt,s))))
def Zds (w:World)(f:Fl)(e:Ending)(w':World):Prop:=∃vl vn,e= .returned (.tuple #[.agg (flV vl (Zas f.nt) (Zar f.nt:Nat) vn (Zaf f.nt) f.sound),.agg #[.int .i64 0,.int .i64 0]])∧
 (∃ms:List Mx,ms.map Mx.mt=f.ms∧Zg mxV w.heap.size w' vl ms)∧Zg ntV w.heap.size w' vn (ntNs f.nt)∧Below w.heap.size w w'
theorem big_t (s:InS)(k:Nat):(s.big k).2.t=s.t:=ZeL s _
theorem ZkI (s:InS)(e a:Nat):(s.fail e a).t=s.t:=by unfold InS.fail;split<;>rfl
theorem wantt (s:InS)(l:List UInt8):(s.want l).2.t=s.t:=by
 unfold InS.want;split
 · rfl
 · split
   · exact ZkI _ _ _
   · split
     · exact ZkI _ _ _
     · rfl
theorem Ztu {s s':InS} {b:List UInt8} {k:Nat} (h:s.take k=(b,s'))(he:s'.e=0)(hf:s.n≤s.t.length):s'.base=s.base∧s'.n=s.n+b.length:=by
 unfold InS.take at h;split at h
 · next q=>injection h with _ h2;subst h2;exact absurd he q
 · split at h
   · injection h with _ h2;subst h2;exact absurd he (ZdE _ _ _ (by decide))
   · next q1 q2=>
     injection h with h1 h2
     subst h2;refine⟨rfl,?_⟩;show s.n+k=_
     rw [←h1,List.length_take,List.length_drop];omega
theorem Zm8 (lf:List UInt8→Except (Nat×Nat) Lf)(ms:List Mx)(m:Mx)(nt:Option (Nat×Bk))(sc:InS)(fu hd:Nat)(q:List Mt×Option (Nat×Bk)×InS)(rest:List Mt)(hl2:q.1=ms.map Mx.mt++rest)(hml:ms.length<4096)
 (h:(128≤hd∧(rest,q.2)=([m.mt],nt,sc))∨(hd<128∧∃q':List Mt×Option (Nat×Bk)×InS,Zba lf fu sc (ms.length+1) nt= .ok q'∧(rest,q.2)=(m.mt::q'.1,q'.2))):
 (Value.bool (decide (128≤(hd:Int)))= .bool false∧(ms++[m]).length≤4096∧Hid (∃fu rest,Zba lf fu sc (ms++[m]).length nt= .ok (rest,q.2)∧q.1=(ms++[m]).map Mx.mt++rest))∨
 (Value.bool (decide (128≤(hd:Int)))= .bool true∧(ms++[m]).length≤4097∧Hid (q.1=(ms++[m]).map Mx.mt∧q.2=(nt,sc))):=by
 have hlen:(ms++[m]).length=ms.length+1:=by simp
 rcases h with⟨h1,h2⟩|⟨h1,q',h3,h2⟩
 · right
   injection h2 with h4 h5
   exact⟨by rw [decide_eq_true (by omega)],by omega,Lib.hid ⟨by rw [hl2,h4];simp,h5⟩⟩
 · left
   injection h2 with h4 h5
   refine⟨by rw [decide_eq_false (by omega)],by omega,Lib.hid ⟨fu,q'.1,?_,by rw [hl2,h4];simp⟩⟩;rw [hlen,h3,h5]
theorem Zob (file:List UInt8)(hl:file.length≤100000)(kd bud:Int)(fb:Nat)(det:Bool)(hfb:fb≤9)(f:Fl)(hp:ZeA (lfC fb det) file= .ok f)(w:World)(hG:Grd w):
 Calls Tryz.prog 24 #[.string (B file),.agg #[.int .i64 kd,.int .i64 fb,.bool det,.int .i64 bud]] w (Zds w f):=by
 obtain⟨s1,hs1⟩:∃s1,((⟨file,0,0,0,0⟩:InS).want Zae).2=s1:=⟨_,rfl⟩
 unfold ZeA at hp;rw [hs1] at hp;split at hp
 · cases hp
 next q hq=>
 injection hp with hp
 have hrd:=fun w=>ZoN file (by omega) w;have hs1t:s1.t.length=file.length:=by rw [←hs1];exact congrArg List.length (wantt _ _)
 have HP:Hid (∀(e:Ending) w',Zds w f e w'→Zds w f e w'):=Lib.hid fun _ _ h=>h;generalize hPP:Zds w f=P at*;have HPP:=Lib.hid hPP;have HF:=Lib.hid hp;have HQ:=Lib.hid hq;have G0:=Lib.hid hG;clear hp hq hG hPP;have L0:=Lib.hid (LpSt.mk0 w #[.int .i64 kd,.int .i64 fb,.bool det,.int .i64 bud]);go_enter Tryz.func24,Tryz.ntmps24
 go_upto_region 1 with fail
 generalize hW:((w.alloc _).alloc _).alloc _=W0;have L1:Hid (LpSt w W0 #[.int .i64 kd,.int .i64 fb,.bool det,.int .i64 bud]):=Lib.hid (by rw [←hW];exact L0.out);clear L0 hW;go_upto_region 2 with(go_at_call 49;refine(hrd _).mono ?_;rintro e w1 ⟨rfl,h1,hb1,hz1⟩;have L2:=Lib.hid (L1.out.below hb1);have R1:=Lib.hid h1;have hKz:w.heap.size+3≤W0.heap.size:=L1.out.hz;clear h1 hb1 hz1)
 have hwn:=fun w h=>ZjE W0.heap.size ⟨file,0,0,0,0⟩ Zae (by decide) w h;unfold Zr at hwn;rw [hs1,show B Zae=⟨#[102,76,97,67]⟩ from rfl] at hwn;generalize ((⟨file,0,0,0,0⟩:InS).want Zae).1=wb at*;generalize W0.heap.size=K at*;go_upto_region 3 with(go_at_call 50;refine(hwn _ R1.out).mono ?_;rintro e w2 ⟨rfl,h2,hb2⟩;have L3:=Lib.hid (L2.out.but hb2 (by omega));have R2:=Lib.hid h2;have hK2:=h2.lt;clear h2 hb2)
 have ST0:=Lib.hid (LpSt.mkF L3.out R2.out hKz);clear L1 L2 L3 R1 R2 hs1 hwn hrd;go_wp2_with fail
 generalize w2.heap.size=F at*;generalize hW3:w2.alloc _=W3 at*;clear hW3;go_loopw [8] (fun b wx=>FlRel w K F #[.int .i64 kd,.int .i64 fb,.bool det,.int .i64 bud] (lfC fb det) file.length q b wx) (fun _ wx=>5000 - lenV ((wx.cell? ⟨F,0,none⟩).getD (.bool false)))
 case atStart=>exact⟨[],none,s1,_,_,ST0,hs1t,.inl ⟨rfl,by simp,Lib.hid ⟨4097,q.1,HQ.out,rfl⟩⟩⟩
 case round=>
  obtain⟨ms,nt,s,vl,vn,ST,hsl,hcase⟩:=hrel;clear ST0;rcases hcase with⟨rfl,hml,HL⟩|⟨rfl,hml,HL⟩
  · obtain⟨fu0,rest,hl1,hl2⟩:=HL.out;obtain⟨fu,hd,z,b,sa,sb,sc,e1,e2,e3,e4,e5,e6,e7⟩:=Zrv (lfC fb det) fu0 s ms.length nt (rest,q.2) hl1;have hta:sa.t=s.t:=by have:=big_t s 1;rw [e1] at this;exact this
    have htb:sb.t=s.t:=by have:=big_t sa 3;rw [e2] at this;exact this.trans hta
    have htc:sc.t=s.t:=by have:=ZeL sb z;rw [e3] at this;exact this.trans htb
    have hbl:b.length≤file.length:=by
     have:=Ziq sb z;rw [e3] at this;rw [←hsl,←htb];exact this
    have hhd:hd<256:=by have:=ZjW s 1 (by decide);rw [e1] at this;exact this
    have hz8:z<16777216:=by have:=ZjW sa 3 (by decide);rw [e2] at this;exact this
    have hat:=fun w h=>ZeU K s w h;have hb1:∀w,InAt w K s→Calls Tryz.prog 55 #[.pointer (some ⟨K,0,none⟩),.int .i64 1] w fun e w'=>e= .returned (.int .u64 (hd:Nat))∧InAt w' K sa∧But K w.heap.size w w':=fun w h=>by
     have:=Zjj K s 1 (by decide) w h;unfold Zr at this;rw [e1] at this;exact this
    have hb3:∀w,InAt w K sa→Calls Tryz.prog 55 #[.pointer (some ⟨K,0,none⟩),.int .i64 3] w fun e w'=>e= .returned (.int .u64 (z:Nat))∧InAt w' K sb∧But K w.heap.size w w':=fun w h=>by
     have:=Zjj K sa 3 (by decide) w h;unfold Zr at this;rw [e2] at this;exact this
    have htk:=fun w h=>Zec K sb z (by omega) (by omega) w h;unfold Zr at htk;rw [Int.toNat_natCast,e3] at htk;simp only at htk;have hfl:=fun w h=>Zd7 K sc w h;rw [e4] at hfl;have hbd:=fun w=>ZaG 0 sc.a rfl w;have hatc:=fun w h=>ZeU K sc w h;have hzw:IntKind.i64.wrap (z:Int)=z:=by rw [IntKind.wrap_i64];omega
    obtain⟨m,hm⟩:∃m:Mx,m=⟨UInt8.ofNat (hd % 128),b⟩:=⟨_,rfl⟩
    have hmk:m.kind.toNat=hd % 128:=by rw [hm];show(UInt8.ofNat (hd % 128)).toNat=_;rw [UInt8.toNat_ofNat'];omega
    have hmb:m.body=b:=by rw [hm]
    have hst:=fun w=>Zi0 ms.length m nt.isSome w;rw [hmk,hmb,e5,←hmk] at hst;have hmod:IntKind.u8.wrap ((hd:Int) % 128)=(m.kind.toNat:Int):=by rw [IntKind.wrap_u8,hmk];omega
    have hmod2:IntKind.u8.wrap ((hd:Int).tmod 128)=(m.kind.toNat:Int):=by rw [Int.tmod_eq_emod_of_nonneg (by omega)];exact hmod
    have hn4:decide (4096≤(ms.length:Int))=false:=decide_eq_false (by omega);have hnt0:decide (0≤Zaf nt)=nt.isSome:=by cases nt<;>simp [Zaf]
    have HE:=Lib.hid (And.intro e6 e7);have HT:=Lib.hid htc;have HL2:=Lib.hid hl2;have HMK:=Lib.hid (And.intro hmk hmb);have HE3:=Lib.hid (And.intro e3 e4);have hbz:=Zt b;obtain⟨_,A0,c0,hv0,hc0⟩:=ZcP ST.out.own;subst hv0;have HX9:Hid (wr.cell? ⟨F,0,none⟩=some (.slice A0 ms.length c0)):=Lib.hid (ST.out.ff.cell 0);obtain⟨Ax,nx,cx,hvx⟩:=Zbc ST.out.nts;subst hvx;clear hl1 hl2 e1 e2 e3 e4 e5 e6 e7 hta htb htc hm hmk hmb HL;obtain⟨⟨o0,o1,o2,o3⟩,⟨x0,x1,x2,x3,x4,x5⟩,xf,xl⟩:=ST.out.cells;go_upto_region 15 with(first
     |(go_at_call 54;refine(hat _ ST.out.inn).mono ?_;rintro e w4 ⟨rfl,rfl⟩)
     |(go_at_call 55;(first|((with_reducible refine(hb1 _ ST.out.inn).mono ?_);rintro e w5 ⟨rfl,h5,hb5⟩;have S1:=Lib.hid (ST.out.butK h5 hb5);clear h5 hb5)|((with_reducible refine(hb3 _ S1.out.inn).mono ?_);rintro e w6 ⟨rfl,h6,hb6⟩;have S2:=Lib.hid (S1.out.butK h6 hb6);clear h6 hb6)))
     |(go_at_call 56;refine(htk _ S2.out.inn).mono ?_;rintro e w7 ⟨rfl,h7,hb7⟩;have S3:=Lib.hid (S2.out.butK h7 hb7);clear h7 hb7)
     |(go_at_call 52;refine(hfl _ S3.out.inn).mono ?_;rintro e w8 ⟨rfl,hb8⟩;have S4:=Lib.hid (S3.out.below hb8);clear hb8)
     |(go_at_call 8;refine(hbd _).mono ?_;rintro e w9 ⟨rfl,hb9⟩;have S5:=Lib.hid (S4.out.below hb9);clear hb9 o0 o1 o2 o3 x0 x1 x2 x3 x4 x5 xf xl;obtain⟨⟨o0,o1,o2,o3⟩,⟨x0,x1,x2,x3,x4,x5⟩,xf,xl⟩:=S5.out.cells))
    have SM:=Lib.hid (S5.out.alloc (.cells #[.int .u8 m.kind.toNat,.string (B b)] 72));have MB:Hid (Bx (w9.alloc (.cells #[.int .u8 m.kind.toNat,.string (B b)] 72)) w9.heap.size #[.int .u8 m.kind.toNat,.string (B b)] 72):=Lib.hid (Bx.new _ _ _);have OWN:Hid (∀bk,(Value.slice A0 ms.length c0).ownBlock=some bk→bk<w9.heap.size):=Lib.hid fun bk h=>(S5.out.own.lt bk h).2;have hmx:w9.heap.size<(w9.alloc (.cells #[.int .u8 m.kind.toNat,.string (B b)] 72)).heap.size:=by rw [World.size_alloc];exact Nat.lt_succ_self _
    have hfs:b.length≤sc.at_∧sc.at_≤1000000000:=by
     obtain⟨p1,p2⟩:=Ztu HE3.out.1 HE3.out.2 S2.out.inn.fits;have p3:=S3.out.inn.fits;have p4:=S3.out.inn.room;have p5:=S3.out.inn.base;rw [InS.at_,ZfY sc sc.n p5 (by omega)];omega
    clear S5 S4 S3 S2 S1 ST o0 o1 o2 o3 x0 x1 x2 x3 x4 x5 xf;generalize w9.alloc _=wm at*;generalize w9.heap.size=M at*;obtain⟨⟨o0,o1,o2,o3⟩,⟨x0,x1,x2,x3,x4,x5⟩,xf,xl2⟩:=SM.out.cells;have m0:=MB.out.cell 0;have m1:=MB.out.cell 1;go_upto_region 19 with(go_at_call 30;refine(hst _).mono ?_;rintro e wa ⟨rfl,hba⟩;have SA:=Lib.hid (SM.out.below hba);have MA:=Lib.hid (MB.out.below hba);clear hba SM MB o0 o1 o2 o3 x0 x1 x2 x3 x4 x5 xf xl2 m0 m1;obtain⟨⟨o0,o1,o2,o3⟩,⟨x0,x1,x2,x3,x4,x5⟩,xf,xl2⟩:=SA.out.cells;have m0:=MA.out.cell 0;have m1:=MA.out.cell 1;have mf:=MA.out.free 1;have ml:=MA.out.lt)
    by_cases hk4:m.kind.toNat=4
    · have q1:((m.kind.toNat:Int)==4)=true:=by rw [hk4];rfl
      have HK4:=Lib.hid hk4;have HE2:=Lib.hid HE.out.2;clear hk4;obtain⟨kb,i,hp,hh⟩:∃(kb:Bk) (i:InS),ZcQ (lfC fb det) false ⟨b,0,sc.at_ - b.length,0,0⟩=(some kb,i)∧((128≤hd∧(rest,q.2)=([⟨4,[]⟩],some (ms.length,kb),sc))∨(hd<128∧∃q':List Mt×Option (Nat×Bk)×InS,Zba (lfC fb det) fu sc (ms.length+1) (some (ms.length,kb))= .ok q'∧(rest,q.2)=(⟨4,[]⟩::q'.1,q'.2))):=by
       rcases HE2.out with⟨_,h⟩|⟨h4,_⟩
       · exact h
       · exact absurd (HMK.out.1.symm.trans HK4.out) h4
      have HH:=Lib.hid hh;have hsub:IntKind.i64.wrap ((sc.at_:Int) - (b.length:Int))=((sc.at_ - b.length:Nat):Int):=by rw [IntKind.wrap_i64];omega
      have hin:=fun w=>Zi3 b ((sc.at_ - b.length:Nat):Int) (by omega) (by omega) w;rw [Int.toNat_natCast] at hin;have hcp:=fun(KI:Nat) w hG h=>ZnK KI ⟨b,0,sc.at_ - b.length,0,0⟩ i false kd bud fb det hfb kb hp (show b.length≤100000 by omega) w hG h;unfold Zgt at hcp;have hMa:=SA.out.ff.lt;clear hh hp;go_upto_region 24 with(first
       |(go_at_call 54;refine(hatc _ SA.out.inn).mono ?_;rintro e wb2 ⟨rfl,rfl⟩)
       |(go_at_call 57;refine(hin _).mono ?_;rintro e wi ⟨rfl,hI,hbI,hzI⟩;have II:=Lib.hid hI;have BI:=Lib.hid hbI;have SI:=Lib.hid (SA.out.below hbI);clear hI hbI hzI o0 o1 o2 o3 x0 x1 x2 x3 x4 x5 xf xl2 m0 m1 mf;obtain⟨⟨o0,o1,o2,o3⟩,⟨x0,x1,x2,x3,x4,x5⟩,xf,xl2⟩:=SI.out.cells)
       |(go_at_call 51;refine(hcp _ _ (G0.out.below SI.out.low) II.out).mono ?_;rintro e wo ⟨vq,rfl,hrq,hiq,hbq⟩;have BO:=Lib.hid (((But.of BI.out).trans (hbq.mono BI.out.size)).below (Nat.le_refl _));have SO:=Lib.hid (SA.out.below BO.out);have MO:=Lib.hid (MA.out.below BO.out);have NO:=Lib.hid (hrq.low (B':=wa.heap.size) BI.out.size);clear hrq hiq hbq o0 o1 o2 o3 x0 x1 x2 x3 x4 x5 xf xl2 SI II;obtain⟨Aq,nq,cq,hvq⟩:=Zbc NO.out;subst hvq))
      have SP:=Lib.hid (SO.out.alloc (.cells #[.string (B kb.vendor.text),.int .i64 (kb.vendor.set:Nat),.slice Aq nq cq] 28));have MP:=Lib.hid (MO.out.alloc (.cells #[.string (B kb.vendor.text),.int .i64 (kb.vendor.set:Nat),.slice Aq nq cq] 28));have NP:=Lib.hid (NO.out.below ((Below.refl _ _).alloc (Nat.le_refl _) (.cells #[.string (B kb.vendor.text),.int .i64 (kb.vendor.set:Nat),.slice Aq nq cq] 28)));have XB:Hid (Bx (wo.alloc (.cells #[.string (B kb.vendor.text),.int .i64 (kb.vendor.set:Nat),.slice Aq nq cq] 28)) wo.heap.size #[.string (B kb.vendor.text),.int .i64 (kb.vendor.set:Nat),.slice Aq nq cq] 28):=Lib.hid (Bx.new _ _ _);clear SO MO NO;generalize wo.alloc _=wp at*;generalize wo.heap.size=X at*;obtain⟨⟨o0,o1,o2,o3⟩,⟨x0,x1,x2,x3,x4,x5⟩,xf,xl2⟩:=SP.out.cells;have m0:=MP.out.cell 0;have m1:=MP.out.cell 1;have mf:=MP.out.free 1;have ml2:=MP.out.lt;have b0:=XB.out.cell 0;have b1:=XB.out.cell 1;have b2:=XB.out.cell 2;have bl:=XB.out.lt;go_upto_region 27 with fail
      have SN:=Lib.hid ((SP.out.note kb (.slice Aq nq cq) (NP.out.low (by omega)) ms.length).setM xl (fun bk h=>Nat.ne_of_lt (OWN.out bk h)) (fun bk h=>by have:=(rows_block NP.out bk h).1;omega) 1 (.string ⟨#[]⟩));have MN:=Lib.hid (((((MP.out.set (k:=F) (by omega) 1 (.string (B kb.vendor.text))).set (k:=F) (by omega) 2 (.int .i64 (kb.vendor.set:Nat))).set (k:=F) (by omega) 3 (.slice Aq nq cq)).set (k:=F) (by omega) 4 (.int .i64 (ms.length:Nat))).put 1 (.string ⟨#[]⟩));clear SP MP NP XB o0 o1 o2 o3 x0 x1 x2 x3 x4 x5 xf xl2 m0 m1 mf ml2 b0 b1 b2 bl;generalize ((((wp.setCell ⟨F,1,none⟩ _).setCell ⟨F,2,none⟩ _).setCell ⟨F,3,none⟩ _).setCell ⟨F,4,none⟩ _).setCell ⟨M,1,none⟩ _=wn at*;obtain⟨⟨o0,o1,o2,o3⟩,⟨x0,x1,x2,x3,x4,x5⟩,xf,xl2⟩:=SN.out.cells;have m0:wn.cell? ⟨M,0,none⟩=some (.int .u8 m.kind.toNat):=MN.out.cell 0;have m1:wn.cell? ⟨M,1,none⟩=some (.string ⟨#[]⟩):=MN.out.cell 1;go_wp2_with (at_builtin;refine ZjN rfl _ _ rfl (F+1) (.slice A0 ms.length c0) ms rfl wn ⟨m.kind,[]⟩ _ rfl SN.out.own (by omega) (by omega) rfl ?_;intro v6 w6 HO6 hb6 hg6;obtain⟨A6,n6,c6,hv6⟩:=Zb9 HO6.out;subst hv6;have SX:=Lib.hid (SN.out.next HO6.out hb6 hg6 (by simp));have LX:=Lib.hid (ZcP HO6.out).1;have yf:=SN.out.ff.same6 hb6 (Nat.lt_succ_self _);have y6:=yf.cell 0;have yl:=yf.lt;have yz:=yf.free 0;clear yf hb6 hg6 HO6)
      go_roundw
      case rel=>
       refine⟨ms++[⟨m.kind,[]⟩],some (ms.length,kb),sc,_,_,SX,by rw [HT.out];exact hsl,?_⟩;refine Zm8 (lfC fb det) ms ⟨m.kind,[]⟩ (some (ms.length,kb)) sc fu hd q rest HL2.out HE.out.1 ?_;have hmt:(⟨m.kind,[]⟩:Mx).mt=⟨4,[]⟩:=by show(⟨m.kind.toNat,[]⟩:Mt)=_;rw [HK4.out]
       rw [hmt];exact HH.out
      case measure=>
       have hm1:(w6.setCell ⟨F,0,none⟩ (.slice A6 n6 c6)).cell? ⟨F,0,none⟩=some (.slice A6 n6 c6):=SX.out.ff.cell 0;have hlx:n6=ms.length+1:=by have:=LX.out;simpa [lenV] using this
       have hms:=HE.out.1;rw [hm1,HX9.out,hlx];show 5000 - (ms.length+1)<5000 - ms.length
       omega
    · have q1:((m.kind.toNat:Int)==4)=false:=by rw [beq_eq_false_iff_ne];omega
      have HK4:=Lib.hid hk4;clear hk4;go_wp2_with (at_builtin;refine ZjN rfl _ _ rfl (F+1) (.slice A0 ms.length c0) ms rfl wa m _ (by unfold mxV;rw [HMK.out.2]) SA.out.own (by omega) (by omega) rfl ?_;intro v6 w6 HO6 hb6 hg6;obtain⟨A6,n6,c6,hv6⟩:=Zb9 HO6.out;subst hv6;have SX:=Lib.hid (SA.out.next HO6.out hb6 hg6 (by simp));have LX:=Lib.hid (ZcP HO6.out).1;have yf:=SA.out.ff.same6 hb6 (Nat.lt_succ_self _);have y6:=yf.cell 0;have yl:=yf.lt;have yz:=yf.free 0;clear yf hb6 hg6 HO6)
      go_roundw
      case rel=>
       refine⟨ms++[m],nt,sc,_,_,SX,by rw [HT.out];exact hsl,?_⟩;refine Zm8 (lfC fb det) ms m nt sc fu hd q rest HL2.out HE.out.1 ?_;have hmt:m.mt=⟨hd % 128,b⟩:=by show(⟨m.kind.toNat,m.body⟩:Mt)=_;rw [HMK.out.1,HMK.out.2]
       rw [hmt];rcases HE.out.2 with⟨h4,_⟩|⟨_,hh⟩
       · exact absurd (HMK.out.1.trans h4) HK4.out
       · exact hh
      case measure=>
       have hm1:(w6.setCell ⟨F,0,none⟩ (.slice A6 n6 c6)).cell? ⟨F,0,none⟩=some (.slice A6 n6 c6):=SX.out.ff.cell 0;have hlx:n6=ms.length+1:=by have:=LX.out;simpa [lenV] using this
       have hms:=HE.out.1;rw [hm1,HX9.out,hlx];show 5000 - (ms.length+1)<5000 - ms.length
       omega
  · obtain⟨hq1,hq2⟩:=HL.out;have HQ1:=Lib.hid hq1;have HQ2:=Lib.hid hq2;clear hq1 hq2 HL;have hrs:=fun w h=>ZoP K s w h;unfold Zr at hrs;obtain⟨_,A0,c0,hv0,hc0⟩:=ZcP ST.out.own;subst hv0;obtain⟨Ax,nx,cx,hvx⟩:=Zbc ST.out.nts;subst hvx;obtain⟨⟨o0,o1,o2,o3⟩,⟨x0,x1,x2,x3,x4,x5⟩,xf,xl⟩:=ST.out.cells;go_upto_region 29 with(go_at_call 58;refine(hrs _ ST.out.inn).mono ?_;rintro e wz ⟨rfl,hz,hbz⟩;have SZ:=Lib.hid (ST.out.butK hz hbz);clear hz hbz o0 o1 o2 o3 x0 x1 x2 x3 x4 x5 xf xl;obtain⟨⟨o0,o1,o2,o3⟩,⟨x0,x1,x2,x3,x4,x5⟩,xf,xl⟩:=SZ.out.cells)
    have hF:=SZ.out.hF;have hK:=SZ.out.hK;have FF:=Lib.hid (SZ.out.ff.put 5 (.string (B s.rest.1)));have RF:=Lib.hid (SZ.out.rf.set (k:=F) (by omega) 5 (.string (B s.rest.1)));have RE:=Lib.hid (SZ.out.re.set (k:=F) (by omega) 5 (.string (B s.rest.1)));have MR:=Lib.hid (Zau (Zg.of_own (f:=mxV) rfl SZ.out.own SZ.out.nil_) (Nat.lt_succ_self F) 5 (.string (B s.rest.1)));have NR:=Lib.hid (Zau SZ.out.nts (Nat.lt_succ_self F) 5 (.string (B s.rest.1)));have LO:=Lib.hid (SZ.out.low.setCell (p:=⟨F,5,none⟩) (by show w.heap.size≤F;omega) (.string (B s.rest.1)));clear SZ ST o0 o1 o2 o3 x0 x1 x2 x3 x4 x5 xf xl;generalize wz.setCell ⟨F,5,none⟩ _=w5 at*;obtain⟨r0,r1,r2,r3,r4,r5,p0,p1,p2,p3,p4,p5⟩:=Zub RF.out;have x0:w5.cell? ⟨F,0,none⟩=some (.slice A0 ms.length c0):=FF.out.cell 0;have x1:w5.cell? ⟨F,1,none⟩=some (.string (B (Zas nt))):=FF.out.cell 1;have x2:w5.cell? ⟨F,2,none⟩=some (.int .i64 (Zar nt:Nat)):=FF.out.cell 2;have x3:w5.cell? ⟨F,3,none⟩=some (.slice Ax nx cx):=FF.out.cell 3;have x4:w5.cell? ⟨F,4,none⟩=some (.int .i64 (Zaf nt)):=FF.out.cell 4;have x5:w5.cell? ⟨F,5,none⟩=some (.string (B s.rest.1)):=FF.out.cell 5;have e0:w5.cell? ⟨w.heap.size+2,0,none⟩=some (.int .i64 0):=RE.out.cell 0;have e1:w5.cell? ⟨w.heap.size+2,1,none⟩=some (.int .i64 0):=RE.out.cell 1;have g0:=RE.out.free 0;have g1:=RE.out.free 1;go_wp2_with fail
    have TX:=((((((((RF.out.put 0 (.slice A0 ms.length c0)).put 1 (.string (B (Zas nt)))).put 2 (.int .i64 (Zar nt:Nat))).put 3 (.slice Ax nx cx)).put 4 (.int .i64 (Zaf nt))).put 5 (.string (B s.rest.1))).set (k:=w.heap.size+2) (by omega) 0 (.int .i64 0)).set (k:=w.heap.size+2) (by omega) 1 (.int .i64 0))
    have FX:=(Zcn ((((((RE.out.set (k:=w.heap.size+1) (by omega) 0 (.slice A0 ms.length c0)).set (k:=w.heap.size+1) (by omega) 1 (.string (B (Zas nt)))).set (k:=w.heap.size+1) (by omega) 2 (.int .i64 (Zar nt:Nat))).set (k:=w.heap.size+1) (by omega) 3 (.slice Ax nx cx)).set (k:=w.heap.size+1) (by omega) 4 (.int .i64 (Zaf nt))).set (k:=w.heap.size+1) (by omega) 5 (.string (B s.rest.1))) (.int .i64 0) (.int .i64 0))
    have MX:=(Zau (Zau (Zau (Zau (Zau (Zau (Zau (Zau MR.out (show w.heap.size+1<F+1 by omega) 0 (.slice A0 ms.length c0)) (show w.heap.size+1<F+1 by omega) 1 (.string (B (Zas nt)))) (show w.heap.size+1<F+1 by omega) 2 (.int .i64 (Zar nt:Nat))) (show w.heap.size+1<F+1 by omega) 3 (.slice Ax nx cx)) (show w.heap.size+1<F+1 by omega) 4 (.int .i64 (Zaf nt))) (show w.heap.size+1<F+1 by omega) 5 (.string (B s.rest.1))) (show w.heap.size+2<F+1 by omega) 0 (.int .i64 0)) (show w.heap.size+2<F+1 by omega) 1 (.int .i64 0))
    have NX:=(Zau (Zau (Zau (Zau (Zau (Zau (Zau (Zau NR.out (show w.heap.size+1<F+1 by omega) 0 (.slice A0 ms.length c0)) (show w.heap.size+1<F+1 by omega) 1 (.string (B (Zas nt)))) (show w.heap.size+1<F+1 by omega) 2 (.int .i64 (Zar nt:Nat))) (show w.heap.size+1<F+1 by omega) 3 (.slice Ax nx cx)) (show w.heap.size+1<F+1 by omega) 4 (.int .i64 (Zaf nt))) (show w.heap.size+1<F+1 by omega) 5 (.string (B s.rest.1))) (show w.heap.size+2<F+1 by omega) 0 (.int .i64 0)) (show w.heap.size+2<F+1 by omega) 1 (.int .i64 0))
    have LX:=((((((((LO.out.setCell (p:=⟨w.heap.size+1,0,none⟩) (by show w.heap.size≤w.heap.size+1;omega) (.slice A0 ms.length c0)).setCell (p:=⟨w.heap.size+1,1,none⟩) (by show w.heap.size≤w.heap.size+1;omega) (.string (B (Zas nt)))).setCell (p:=⟨w.heap.size+1,2,none⟩) (by show w.heap.size≤w.heap.size+1;omega) (.int .i64 (Zar nt:Nat))).setCell (p:=⟨w.heap.size+1,3,none⟩) (by show w.heap.size≤w.heap.size+1;omega) (.slice Ax nx cx)).setCell (p:=⟨w.heap.size+1,4,none⟩) (by show w.heap.size≤w.heap.size+1;omega) (.int .i64 (Zaf nt))).setCell (p:=⟨w.heap.size+1,5,none⟩) (by show w.heap.size≤w.heap.size+1;omega) (.string (B s.rest.1))).setCell (p:=⟨w.heap.size+2,0,none⟩) (by show w.heap.size≤w.heap.size+2;omega) (.int .i64 0)).setCell (p:=⟨w.heap.size+2,1,none⟩) (by show w.heap.size≤w.heap.size+2;omega) (.int .i64 0))
    refine bodyPost_ret (Zh6 rfl _ _ (w.heap.size+1) (w.heap.size+2) _ _ _ _ _ _ _ _ rfl rfl TX FX Tryz.underlying30 rfl (by kernel_rfl) Tryz.underlying39 rfl (by kernel_rfl)) rfl ?_;rw [←HPP.out,←HF.out,HQ1.out,HQ2.out];exact⟨_,_,rfl,⟨ms,rfl,MX.low (by omega)⟩,NX.low (by omega),LX⟩
theorem Zsy:(Tryz.prog.info? 63).map (fun i=>(i.zero,i.size,i.bytes))=some (some (.agg #[.string ⟨#[]⟩,.string ⟨#[]⟩,.int .i64 0]),3,40):=by kernel_rfl
def mrV (m:Mx):List Value:=[.int .i64 m.kind.toNat,.string (B m.body)]
theorem ZhM (m:Mx):(mrV m).length=2:=rfl
theorem Zsx:(Tryz.prog.info? 90).map (fun i=>(i.zero,i.size,i.bytes))=some (some (.agg #[.int .i64 0,.string ⟨#[]⟩]),2,24):=by kernel_rfl
section
variable {ops:Array Oper} {rest:List Oper} {o:Oper} {a:Act} {Q:Exit→Act→World→Prop}
theorem app_rn (hgd:o.guard=none)(s x:Operand)(ho:o.op= .call {callee:= .builtin .append,args:=#[s,x],argTypes:=#[64,64]}) (base:Nat) (v:Value) (L:List Nx) (hs:a.eval s=v) (W:World) (m:Nx) (cs:Array Value) (hcs:cs=(nxV m).toArray)
 (hown:W.ownsRow base 63 3 v L.length (L.flatMap nxV)) (hbase:base≤W.heap.size) (hlen:L.length≤16777216) (hx:a.eval x= .slice (some ⟨W.heap.size,0,none⟩) 1 1)
 (h:∀v' w',Hid (w'.ownsRow base 63 3 v' (L++[m]).length ((L++[m]).flatMap nxV))→Below base W w'→wpList Tryz.prog ops Q rest (a.put o.dst v') w'):
 wpList Tryz.prog ops Q (o::rest) a (W.alloc (.cells cs 63)):=by
 obtain⟨i0,hi,iz0,iz1,iz2⟩:=info_parts Zsy;subst hcs;refine wpList_append_own _ hgd s x 64 ho base 63 i0 _ 3 40 Tryz.underlying64 hi iz0 iz1 iz2 rfl (by decide) v L.length _ hs (hown.alloc _) ⟨W.heap.size,0,none⟩ 1 1 (nxV m) hx rfl (Zdl W (nxV m) _) ?_ (by unfold maxLen;omega) (by omega) (by simp;omega) ?_
 · intro u hu;simp only [nxV,List.mem_cons,List.not_mem_nil,or_false] at hu;rcases hu with rfl|rfl|rfl<;>rfl
 · intro v6 w6 hown6 hg6 _;refine h v6 w6 (Lib.hid ?_) (Zad ((Below.refl _ W).alloc hbase _) (hown.alloc _) hg6 (by simp;omega) (Nat.le_refl _));rw [List.flatMap_append,List.length_append];simpa [nxV] using hown6
theorem app_rm (hgd:o.guard=none)(s x:Operand)(ho:o.op= .call {callee:= .builtin .append,args:=#[s,x],argTypes:=#[61,61]}) (base:Nat) (v:Value) (L:List Mx) (hs:a.eval s=v) (W:World) (m:Mx) (cs:Array Value) (hcs:cs=(mrV m).toArray)
 (hown:W.ownsRow base 90 2 v L.length (L.flatMap mrV)) (hbase:base≤W.heap.size) (hlen:L.length≤16777216) (hx:a.eval x= .slice (some ⟨W.heap.size,0,none⟩) 1 1)
 (h:∀v' w',Hid (w'.ownsRow base 90 2 v' (L++[m]).length ((L++[m]).flatMap mrV))→Below base W w'→wpList Tryz.prog ops Q rest (a.put o.dst v') w'):
 wpList Tryz.prog ops Q (o::rest) a (W.alloc (.cells cs 90)):=by
 obtain⟨i0,hi,iz0,iz1,iz2⟩:=info_parts Zsx;subst hcs;refine wpList_append_own _ hgd s x 61 ho base 90 i0 _ 2 24 Tryz.underlying61 hi iz0 iz1 iz2 rfl (by decide) v L.length _ hs (hown.alloc _) ⟨W.heap.size,0,none⟩ 1 1 (mrV m) hx rfl (Zdl W (mrV m) _) ?_ (by unfold maxLen;omega) (by omega) (by simp;omega) ?_
 · intro u hu;simp only [mrV,List.mem_cons,List.not_mem_nil,or_false] at hu;rcases hu with rfl|rfl<;>rfl
 · intro v6 w6 hown6 hg6 _;refine h v6 w6 (Lib.hid ?_) (Zad ((Below.refl _ W).alloc hbase _) (hown.alloc _) hg6 (by simp;omega) (Nat.le_refl _));rw [List.flatMap_append,List.length_append];simpa [mrV] using hown6
end
structure OnSt (w0 wx:World)(BA:Array Value)(G:Nat)(v:List UInt8)(vs:Int)(vl:Value)(ns:List Nx):Prop where
 b:Bx wx w0.heap.size BA 28
 res:Bx wx (w0.heap.size+1) #[.string ⟨#[]⟩,.string ⟨#[]⟩,.int .i64 0,.slice none 0 0] 66
 m:Bx wx G #[.string ⟨#[]⟩,.string (B v),.int .i64 vs,vl] 66
 own:wx.ownsRow (G+1) 63 3 vl ns.length (ns.flatMap nxV)
 nil_:ns=[]→vl= .slice none 0 0
 low:Below w0.heap.size w0 wx
 hG:w0.heap.size+2≤G
section
variable {w0 w w':World} {BA:Array Value} {G:Nat} {v:List UInt8} {vs:Int} {vl:Value} {ns:List Nx}
theorem OnSt.below (h:OnSt w0 w BA G v vs vl ns)(hb:Below w.heap.size w w'):OnSt w0 w' BA G v vs vl ns:=⟨h.b.below hb,h.res.below hb,h.m.below hb,ZE h.own hb,h.nil_,h.low.trans (hb.mono h.low.size),h.hG⟩
theorem OnSt.alloc (h:OnSt w0 w BA G v vs vl ns)(ob:Obj):OnSt w0 (w.alloc ob) BA G v vs vl ns:=h.below ((Below.refl _ _).alloc (Nat.le_refl _) _)
theorem OnSt.next {v6:Value} {ns2:List Nx} (h:OnSt w0 w BA G v vs vl ns)(ho:w'.ownsRow (G+1) 63 3 v6 (ns++ns2).length ((ns++ns2).flatMap nxV))(hb:Below (G+1) w w')(hne:ns++ns2≠[]):
 OnSt w0 (w'.setCell ⟨G,3,none⟩ v6) BA G v vs v6 (ns++ns2):=by
 have h1:=h.hG;have hbt:But G w'.heap.size w' (w'.setCell ⟨G,3,none⟩ v6):=(But.refl _ _ _).setCell (p:=⟨G,3,none⟩) (.inr rfl) _;exact⟨(h.b.same6 hb (by omega)).set (by omega) 3 _,(h.res.same6 hb (by omega)).set (by omega) 3 _,(h.m.same6 hb (by omega)).put 3 _,Zb8 ho hbt (by omega),fun e=>absurd e hne,(h.low.trans (hb.mono (by omega))).setCell (p:=⟨G,3,none⟩) (by show w0.heap.size≤G;omega) _,h1⟩
theorem OnSt.cells {a b c:Value} (h:OnSt w0 w #[a,b,c] G v vs vl ns):
 (w.cell? ⟨w0.heap.size,0,none⟩=some a∧w.cell? ⟨w0.heap.size,1,none⟩=some b∧w.cell? ⟨w0.heap.size,2,none⟩=some c)∧
 (w.cell? ⟨G,0,none⟩=some (.string ⟨#[]⟩)∧w.cell? ⟨G,1,none⟩=some (.string (B v))∧w.cell? ⟨G,2,none⟩=some (.int .i64 vs)∧w.cell? ⟨G,3,none⟩=some vl)∧
 (∀j,w.frozen? ⟨G,j,none⟩=false)∧(∀j,w.frozen? ⟨w0.heap.size+1,j,none⟩=false)∧G<w.heap.size∧w0.heap.size+1<w.heap.size:=
 ⟨⟨h.b.cell 0,h.b.cell 1,h.b.cell 2⟩,⟨h.m.cell 0,h.m.cell 1,h.m.cell 2,h.m.cell 3⟩,h.m.free,h.res.free,h.m.lt,h.res.lt⟩
theorem OnSt.resc (h:OnSt w0 w BA G v vs vl ns):w.cell? ⟨w0.heap.size+1,0,none⟩=some (.string ⟨#[]⟩)∧w.cell? ⟨w0.heap.size+1,1,none⟩=some (.string ⟨#[]⟩)∧w.cell? ⟨w0.heap.size+1,2,none⟩=some (.int .i64 0)∧w.cell? ⟨w0.heap.size+1,3,none⟩=some (.slice none 0 0):=⟨h.res.cell 0,h.res.cell 1,h.res.cell 2,h.res.cell 3⟩
end
def OnRel (w0:World)(BA:Array Value)(G:Nat)(v:List UInt8)(vs:Int)(ns:List Nx)(i:Value)(wx:World):Prop:=∃(k:Nat) (vl:Value),k≤ns.length∧i= .int .i64 k∧Hid (OnSt w0 wx BA G v vs vl (ns.take k))
def ZgH (w:World)(v:List UInt8)(vs:Int)(ns:List Nx)(e:Ending)(w':World):Prop:=∃vl,e= .returned (.agg #[.string ⟨#[]⟩,.string (B v),.int .i64 vs,vl])∧Zg nxV w.heap.size w' vl ns∧Below w.heap.size w w'
theorem Zoz (v:List UInt8)(vs:Int)(A:Option Addr)(c:Nat)(ns:List Nx)(hn:ns.length≤1000)(w:World)(h:RdN 3 nxV w w.heap.size A ns):
 Calls Tryz.prog 28 #[.agg #[.string (B v),.int .i64 vs,.slice A ns.length c]] w (ZgH w v vs ns):=by
 generalize hP:ZgH w v vs ns=P at*;have HP:=Lib.hid hP;have HR:=Lib.hid h;clear h hP;have B1:Hid (OnSt w (((w.alloc (.cells #[.string (B v),.int .i64 vs,.slice A ns.length c] 28)).alloc (.cells #[.string ⟨#[]⟩,.string ⟨#[]⟩,.int .i64 0,.slice none 0 0] 66)).alloc (.cells #[.string ⟨#[]⟩,.string (B v),.int .i64 vs,.slice none 0 0] 66)) #[.string (B v),.int .i64 vs,.slice A ns.length c] (w.heap.size+2) v vs (.slice none 0 0) []):=Lib.hid (by
  have e1:=Bx.new w #[.string (B v),.int .i64 vs,.slice A ns.length c] 28;have e2:=Bx.new (w.alloc (.cells #[.string (B v),.int .i64 vs,.slice A ns.length c] 28)) #[.string ⟨#[]⟩,.string ⟨#[]⟩,.int .i64 0,.slice none 0 0] 66;rw [World.size_alloc] at e2;have e3:=Bx.new ((w.alloc (.cells #[.string (B v),.int .i64 vs,.slice A ns.length c] 28)).alloc (.cells #[.string ⟨#[]⟩,.string ⟨#[]⟩,.int .i64 0,.slice none 0 0] 66)) #[.string ⟨#[]⟩,.string (B v),.int .i64 vs,.slice none 0 0] 66;rw [World.size_alloc,World.size_alloc] at e3;exact⟨(e1.alloc _).alloc _,e2.alloc _,e3,⟨rfl,.inl ⟨rfl,rfl⟩⟩,fun _=>rfl,(((Below.refl _ w).alloc (Nat.le_refl _) _).alloc (by simp) _).alloc (by simp;omega) _,Nat.le_refl _⟩)
 obtain⟨⟨c0,c1,c2⟩,⟨z0,z1,z2,z3⟩,f0,f1,l1,l2⟩:=B1.out.cells;go_enter Tryz.func28,Tryz.ntmps28
 go_wp2_with fail
 go_loopw [17] (fun i wx=>OnRel w #[.string (B v),.int .i64 vs,.slice A ns.length c] (w.heap.size+2) v vs ns i wx) (fun i _=>ns.length - (intOf i).toNat)
 case atStart=>exact⟨0,_,Nat.zero_le _,rfl,B1⟩
 case round=>
  obtain⟨k,vl,hk,rfl,ST⟩:=hrel;clear c0 c1 c2 z0 z1 z2 z3 f0 f1 l1 l2;obtain⟨A0,n0,c0',hvl⟩:=Zb9 ST.out.own;subst hvl;obtain⟨⟨c0,c1,c2⟩,⟨z0,z1,z2,z3⟩,f0,f1,l1,l2⟩:=ST.out.cells;by_cases hlt:k<ns.length
  · obtain⟨n,hk1⟩:∃n,ns[k]? =some n:=⟨_,List.getElem?_eq_getElem hlt⟩
    obtain⟨ad,rfl,hadb,y0,y1,y2⟩:=(HR.out.below ST.out.low).note hk1;have hbl:ad.block<wr.heap.size:=Nat.lt_of_lt_of_le hadb ST.out.low.size;have HT:=Lib.hid (ZdW hk1);have htl:(ns.take k).length≤1000:=by rw [List.length_take];omega
    clear hk1;generalize ns.take k=tk at*;go_wp2_with (at_builtin;refine app_rn rfl _ _ rfl (w.heap.size+2+1) (.slice A0 n0 c0') tk rfl (wr.alloc (.cells #[.string (B n.name),.string (B n.text),.int .i64 n.set] 93)) n _ rfl (ST.out.alloc _).own (by rw [World.size_alloc];omega) (by omega) (by show Value.slice (some ⟨wr.heap.size+1,0,none⟩) 1 1=_;rw [World.size_alloc]) ?_;intro v6 w6 HO6 hb6;obtain⟨A6,n6,c6,hv6⟩:=Zb9 HO6.out;subst hv6;have BD:=Lib.hid ((ST.out.alloc _).next HO6.out hb6 (by simp));have yf:=(ST.out.alloc (.cells #[.string (B n.name),.string (B n.text),.int .i64 n.set] 93)).m.same6 hb6 (Nat.lt_succ_self _);have y6:=yf.cell 3;have yl:=yf.lt;have yz:=yf.free 3;clear yf hb6 HO6)
    go_roundw
    case rel=>exact⟨k+1,_,by omega,by go_num,by rw [HT.out];exact BD⟩
    case measure=>simp [intOf];omega
  · obtain rfl:k=ns.length:=by omega
    obtain⟨q0,q1,q2,q3⟩:=ST.out.resc;go_wp2_with fail
    have F:=Bx.four ST.out.res;have hb:But (w.heap.size+1) wr.heap.size wr ((((wr.setCell ⟨w.heap.size+1,0,none⟩ (.string ⟨#[]⟩)).setCell ⟨w.heap.size+1,1,none⟩ (.string (B v))).setCell ⟨w.heap.size+1,2,none⟩ (.int .i64 vs)).setCell ⟨w.heap.size+1,3,none⟩ (.slice A0 n0 c0')):=
     ((((But.refl _ _ _).setCell (p:=⟨w.heap.size+1,0,none⟩) (.inr rfl) _).setCell (p:=⟨w.heap.size+1,1,none⟩) (.inr rfl) _).setCell (p:=⟨w.heap.size+1,2,none⟩) (.inr rfl) _).setCell (p:=⟨w.heap.size+1,3,none⟩) (.inr rfl) _
    have F2:=(((ST.out.res.put 0 (.string ⟨#[]⟩)).put 1 (.string (B v))).put 2 (.int .i64 vs)).put 3 (.slice A0 n0 c0');have hrw:Zg nxV (w.heap.size+2+1) wr (.slice A0 n0 c0') (ns.take ns.length):=Zg.of_own rfl ST.out.own ST.out.nil_;rw [List.take_length] at hrw;refine bodyPost_ret (results_cell_row rfl _ _ (w.heap.size+1) _ _ _ _ rfl F2 Tryz.underlying66 rfl (by kernel_rfl)) rfl ?_;rw [←HP.out];exact⟨_,rfl,(hrw.but hb (by omega)).low (by omega),ST.out.low.trans ((hb.mono ST.out.low.size).below (by omega))⟩
end Go.Proofs.YtlglfmbccihopaaGreatDoor
