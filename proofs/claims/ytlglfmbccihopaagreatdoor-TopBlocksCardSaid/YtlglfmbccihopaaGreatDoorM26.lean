/- Lemmas for a statement on the tops; conditions: as each says. -/
import Derived.Lib.AppendStr
import Derived.Lib.ConvBytes
import Derived.Test.YtlglfmbccihopaaGreatDoorM12
import Derived.Test.YtlglfmbccihopaaGreatDoorM18
import Derived.Test.YtlglfmbccihopaaGreatDoorM24
import Derived.Test.YtlglfmbccihopaaGreatDoorM25
set_option linter.unusedVariables false
set_option linter.unusedSimpArgs false
set_option maxRecDepth 100000
set_option maxHeartbeats 4000000
namespace Go.Proofs.YtlglfmbccihopaaGreatDoor
open Go Go.RowKit Go.Maps
structure Grd (w:World):Prop where
 tabs:Zh w
 db:DB w
 ml:ML w
theorem Grd.below {w w':World} (h:Grd w)(hb:Below w.heap.size w w'):Grd w':=⟨ZU h.tabs hb (Nat.le_refl _),Zdr h.db hb (Nat.le_refl _),Zdt h.ml hb (Nat.le_refl _)⟩
theorem Grd.alloc {w:World} (h:Grd w)(o:Obj):Grd (w.alloc o):=h.below ((Below.refl _ _).alloc (Nat.le_refl _) _)
theorem Znh (p:Int):Zc [p]=Lib.encodeRune p:=by simp [Zc]
theorem ZnD (a b:UInt8)(w:World):
 Calls Tryz.prog 259 #[.int .u8 a.toNat,.int .u8 b.toNat] w fun e w'=>∃z,e= .returned (.tuple #[.string (B (Zc (Zbe a.toNat b.toNat))),.bool z])∧Below w.heap.size w w':=by
 have ha:=a.toNat_lt;have hb:=b.toNat_lt;refine(Zo9 a.toNat b.toNat (by omega) (by omega) w).mono ?_;rintro e w' ⟨rfl,h⟩;exact⟨_,rfl,h⟩
theorem ZnR (c:Nat)(hc:4≤c∧c≤6)(a b:UInt8)(w:World)(hD:DB w):
 Calls Tryz.prog 195 #[.int .i64 c,.int .u8 a.toNat,.int .u8 b.toNat] w fun e w'=>e= .returned (.string (B (Zc (sg2 c a b))))∧Below w.heap.size w w':=by
 have ha:=a.toNat_lt;have hb:=b.toNat_lt;by_cases h4:c=4
 · subst h4;have hs:sg2 4 a b=if ZbY a b≠0∧Zf (ZbY a b)=true then [ZbY a b] else []:=by unfold sg2;rw [if_pos rfl]
   have hsg:=fun w hD=>Zjv (Znq a b) (by omega) (by omega) w hD;rw [hs];generalize ZbY a b=p at*;clear hs;by_cases h0:p=0
   · subst h0;go_enter Tryz.func195,Tryz.ntmps195
     go_wp2_with (go_at_call 257;refine(hsg _ hD).mono ?_;rintro e w1 ⟨rfl,hb1⟩)
     go_ret
     exact⟨rfl,hb1⟩
   · have e1:(p !=0)=true:=by simpa using h0
     have e2:decide (p≠0)=true:=by simpa using h0
     by_cases hsc:Zf p=true
     · have ht:=fun c w=>Zfb p hsc c w;rw [if_pos ⟨h0,hsc⟩,Znh];go_enter Tryz.func195,Tryz.ntmps195
       go_wp2_with (first|(go_at_call 257;refine(hsg _ hD).mono ?_;rintro e w1 ⟨rfl,hb1⟩)|(go_at_call 260;refine(ht _ _).mono ?_;rintro e w2 ⟨rfl,hb2⟩))
       go_ret
       exact⟨rfl,hb1.trans ((Zd hb2).mono hb1.size)⟩
     · have ht:=fun c w=>Zpn p (by simpa using hsc) c w;rw [if_neg (fun h=>hsc h.2)];go_enter Tryz.func195,Tryz.ntmps195
       go_wp2_with (first|(go_at_call 257;refine(hsg _ hD).mono ?_;rintro e w1 ⟨rfl,hb1⟩)|(go_at_call 260;refine(ht _ _).mono ?_;rintro e w2 ⟨rfl,rfl⟩))
       go_ret
       exact⟨rfl,hb1.alloc (by have:=hb1.size;omega) _⟩
 · by_cases h5:c=5
   · subst h5;have hs:sg2 5 a b=if Z6 ((a.toNat*256+b.toNat:Nat):Int)=0 then [] else [Z6 ((a.toNat*256+b.toNat:Nat):Int)]:=by unfold sg2;rw [if_neg (by decide),if_pos rfl]
     have hsg:=fun w=>Zok a b w;have hsc:=Zlg ((a.toNat*256+b.toNat:Nat):Int);rw [hs];generalize Z6 ((a.toNat*256+b.toNat:Nat):Int)=p at*;clear hs;by_cases h0:p=0
     · subst h0;go_enter Tryz.func195,Tryz.ntmps195
       go_wp2_with (go_at_call 258;refine(hsg _).mono ?_;rintro e w1 ⟨rfl,hb1⟩)
       go_ret
       exact⟨rfl,hb1⟩
     · have e2:decide (p≠0)=true:=by simpa using h0
       rw [e2] at hsg;have ht:=fun c w=>Zfb p (hsc h0) c w;rw [if_neg h0,Znh];clear hsc e2;go_enter Tryz.func195,Tryz.ntmps195
       go_wp2_with (first|(go_at_call 258;refine(hsg _).mono ?_;rintro e w1 ⟨rfl,hb1⟩)|(go_at_call 260;refine(ht _ _).mono ?_;rintro e w2 ⟨rfl,hb2⟩))
       go_ret
       exact⟨rfl,hb1.trans ((Zd hb2).mono hb1.size)⟩
   · obtain rfl:c=6:=by omega
     have hs:sg2 6 a b=Zbe a.toNat b.toNat:=by unfold sg2;rw [if_neg (by decide),if_neg (by decide)]
     have hsg:=fun w=>ZnD a b w;rw [hs];clear hs;go_enter Tryz.func195,Tryz.ntmps195
     go_wp2_with (go_at_call 259;refine(hsg _).mono ?_;rintro e w1 ⟨z,rfl,hb1⟩)
     go_ret
     exact⟨rfl,hb1⟩
theorem Zti (l:List UInt8):Lib.strCells (B l)=l.map u8V:=by
 simp [Lib.strCells,B,u8V]
theorem MpT.same {w w':World} {b n:Nat} {M:UInt8→UInt8→Option (List UInt8)} (h:MpT w b n M)(e:w'.heap[b]? =w.heap[b]?):MpT w' b n M:=by
 obtain⟨D,⟨es,cl,h1,h2⟩,h3⟩:=h;exact⟨D,⟨es,cl,e.trans h1,h2⟩,h3⟩
section
variable {ops:Array Oper} {rest:List Oper} {o:Oper} {a:Act} {Q:Exit→Act→World→Prop}
theorem mt_no {w:World} {b n:Nat} {M:UInt8→UInt8→Option (List UInt8)} (hg:o.guard=none)(m x:Operand)(hop:o.op=Op.lookup 260 m x true)(h:MpT w b n M)(hm:a.eval m= .map (some b))(p q:UInt8)(hx:a.eval x= .agg #[.int .u8 p.toNat,.int .u8 q.toNat])(hk:M p q=none)
 (hK:∀t:List UInt8,wpList Tryz.prog ops Q rest (a.put o.dst (.tuple #[.agg #[.string (B t)],.bool false])) w):
 wpList Tryz.prog ops Q (o::rest) a w:=
 Zlz hg m x hop h hm p q hx fun t _=>by rw [hk];exact hK t
theorem ZlB {w:World} {b n:Nat} {M:UInt8→UInt8→Option (List UInt8)} (hg:o.guard=none)(m x:Operand)(hop:o.op=Op.lookup 260 m x true)(h:MpT w b n M)(hm:a.eval m= .map (some b))(p q:UInt8)(hx:a.eval x= .agg #[.int .u8 p.toNat,.int .u8 q.toNat]){t:List UInt8} (hk:M p q=some t)
 (hK:wpList Tryz.prog ops Q rest (a.put o.dst (.tuple #[.agg #[.string (B t)],.bool true])) w):
 wpList Tryz.prog ops Q (o::rest) a w:=
 Zlz hg m x hop h hm p q hx fun s hs=>by rw [hs t hk,hk];exact hK
theorem ZrB {w:World} {b n:Nat} {M:UInt8→UInt8→Option (List UInt8)} (hg:o.guard=none)(m x:Operand)(hop:o.op=Op.lookup 260 m x true)(h:MpT w b n M)(hm:a.eval m= .map (some b))(p q:UInt8)(hx:a.eval x= .agg #[.int .u8 p.toNat,.int .u8 q.toNat])(hk:M p q=some [])
 (hK:wpList Tryz.prog ops Q rest (a.put o.dst (.tuple #[.agg #[.string ⟨#[]⟩],.bool true])) w):
 wpList Tryz.prog ops Q (o::rest) a w:=ZlB hg m x hop h hm p q hx hk hK
theorem ZjP (hgd:o.guard=none)(s x:Operand)(ho:o.op= .call {callee:= .builtin .append,args:=#[s,x],argTypes:=#[96,9]}) (base:Nat) (v:Value) (l:List UInt8) (hs:a.eval s=v) (W:World) (y:List UInt8)
 (hown:W.ownsRow base 5 1 v l.length (l.map u8V)) (hbase:base≤W.heap.size) (hlen:l.length≤35184372080000) (hy:y.length≤1000000) (hx:a.eval x= .string (B y))
 (h:∀v' w',Hid (w'.ownsRow base 5 1 v' (l++y).length ((l++y).map u8V))→Below base W w'→wpList Tryz.prog ops Q rest (a.put o.dst v') w'):
 wpList Tryz.prog ops Q (o::rest) a W:=by
 obtain⟨i0,hi,iz0,iz1,iz2⟩:=info_parts ZeO;have hsz:=Zt y;refine Lib.wpList_append_own_string W hgd s x 96 9 ho base 5 i0 Tryz.underlying96 Tryz.underlying9 hi iz0 iz1 iz2 v l.length _ hs hown (B y) hx (by unfold maxLen;omega) (by omega) hbase ?_;intro v' w' h1 h2 _;refine h v' w' (Lib.hid ?_) (Zad (Below.refl _ W) hown h2 hbase (Nat.le_refl _));rw [List.length_append,List.map_append,←hsz,←Zti];exact h1
end
theorem ZbD {w:World} {K:Nat} {a b:Value} {T:TypeId} (h:w.heap[K]? =some (.cells #[a,b] T (0,0))):w.cell? ⟨K,0,none⟩=some a∧w.cell? ⟨K,1,none⟩=some b∧w.frozen? ⟨K,0,none⟩=false∧w.frozen? ⟨K,1,none⟩=false:=
 ⟨by rw [cell_of_row _ K 0 _ _ _ h];rfl,by rw [cell_of_row _ K 1 _ _ _ h];rfl,frozen_of_row _ K 0 _ _ h,frozen_of_row _ K 1 _ _ h⟩
def D2Rel (f:UInt8→UInt8→List Int)(l:List UInt8)(w0 W2:World)(v i:Value)(wr:World):Prop:=
 ∃(k n:Nat) (out:List Int) (M:UInt8→UInt8→Option (List UInt8)),k≤l.length∧i= .int .i64 k∧n≤k∧Zj f l 0=Zav out (Zj f (l.drop k) k)∧(Zc out).length≤4*k∧
  Hid (wr.ownsRow (w0.heap.size+2) 5 1 v (Zc out).length ((Zc out).map u8V))∧MpT wr (w0.heap.size+1) n M∧Hid (∀x y t,M x y=some t→t=Zc (f x y))∧But (w0.heap.size+1) (w0.heap.size+2) W2 wr
theorem But.grownK {C:Nat} {w w':World} (hg:w.grownBy w' (some C)):But C w.heap.size w w':=
 ⟨hg.os,hg.tape,hg.output,hg.size,fun k hk hc=>hg.block k hk (by simpa using hc)⟩
theorem ZpN {l:List UInt8} (h:l≠[]):(B l).toList.isEmpty=false:=by
 have e:(B l).toList=l:=by rw [ByteArray.toList_eq,Zbn]
 rw [e];cases l with
 |nil=>exact absurd rfl h
 |cons a l=>rfl
theorem Zg8 (wr w1:World)(two:Array Value)(t0:Value)(T1 T2:TypeId)(hb1:Below ((wr.alloc (.cells two T1)).drew.alloc (.cells #[t0] T2)).heap.size ((wr.alloc (.cells two T1)).drew.alloc (.cells #[t0] T2)) w1):
 Below wr.heap.size wr w1∧w1.heap[wr.heap.size+1]? =some (.cells #[t0] T2 (0,0)):=by
 have hz:((wr.alloc (.cells two T1)).drew).heap.size=wr.heap.size+1:=by simp [World.drew]
 have e:=heap_alloc_new (wr.alloc (.cells two T1)).drew (.cells #[t0] T2);rw [hz] at e;refine⟨?_,?_⟩
 · exact((((Below.refl _ wr).alloc (Nat.le_refl _) _).trans (Below.refl _ _).drew).alloc (by rw [hz];omega) _).trans (hb1.mono (by simp [World.drew];omega))
 · rw [hb1.block _ (by simp [World.drew]),e]
theorem Zkj (wr:World)(two:Array Value)(t0:Value)(T1 T2:TypeId):Below wr.heap.size wr ((wr.alloc (.cells two T1)).alloc (.cells #[t0] T2)).drew:=
 (((Below.refl _ wr).alloc (Nat.le_refl _) _).alloc (by simp) _).drew
theorem Zki {K:Nat} (wr w1 w4:World)(two:Array Value)(t0 ts:Value)(T1 T2:TypeId)(hK:K<wr.heap.size)(hb1:Below ((wr.alloc (.cells two T1)).drew.alloc (.cells #[t0] T2)).heap.size ((wr.alloc (.cells two T1)).drew.alloc (.cells #[t0] T2)) w1)
 (hg:(w1.setCell ⟨wr.heap.size+1,0,none⟩ ts).grownBy w4 (some K)):w4.cell? ⟨wr.heap.size+1,0,none⟩=some ts∧But K wr.heap.size wr w4:=by
 obtain⟨h1,h2⟩:=Zg8 wr w1 two t0 T1 T2 hb1;have h3:=heap_setCell_same w1 (wr.heap.size+1) 0 _ _ ts h2;have hz:wr.heap.size+1<w1.heap.size:=(Array.getElem?_eq_some_iff.1 h2).1;refine⟨?_,?_⟩
 · have h4:=hg.block (wr.heap.size+1) (by simpa [World.setCell] using hz) (by simp;omega);rw [h3] at h4;rw [cell_of_row _ _ 0 _ _ _ h4];rfl
 · exact((But.of h1).setCell (.inl (by show wr.heap.size≤wr.heap.size+1;omega)) ts).trans ((But.grownK hg).mono (by simp [World.setCell];omega))
def D2V:Za4→Value
 | .inl ps=> .tuple #[.string (B (Zc ps)),.agg #[.int .i64 0,.int .i64 0]]
 | .inr n=> .tuple #[.string ⟨#[]⟩,.agg #[.int .i64 2,.int .i64 n]]
def ZaV (r:Za4)(w0:World)(e:Ending)(w':World):Prop:=e= .returned (D2V r)∧Below w0.heap.size w0 w'
theorem Zn5 (c:Nat)(hc:4≤c∧c≤6)(l:List UInt8)(hl:l.length≤100000)(w:World)(hG:Grd w):
 Calls Tryz.prog 119 #[.int .i64 c,.string (B l)] w (ZaV (Zj (sg2 c) l 0) w):=by
 have hsz:=Zt l;have hsg:=fun a b w hD=>ZnR c hc a b w hD;have hlen2:∀a b,(Zc (sg2 c a b)).length≤8:=fun a b=>by
  have h1:=ZmR c a b;have h2:=(ZaL (sg2 c a b)).2;omega
 generalize sg2 c=f at*;have HP:Hid (∀r w',Zj f l 0=r→Below w.heap.size w w'→ZaV (Zj f l 0) w (.returned (D2V r)) w'):=Lib.hid fun r w' h1 h2=>by rw [h1];exact⟨rfl,h2⟩
 generalize ZaV (Zj f l 0) w=P at*;obtain⟨i0,hi,iz0,iz1,iz2⟩:=info_parts ZeO;have hmm:=@run_makeMap Tryz.prog;obtain⟨W2,hW2⟩:∃W2,W2=(w.alloc (.cells #[.int .i64 0,.int .i64 0] 39)).alloc (.map #[] 0):=⟨_,rfl⟩
 have hz2:W2.heap.size=w.heap.size+1+1:=by rw [hW2];simp
 have HW2:=Lib.hid hW2;go_enter Tryz.func119,Tryz.ntmps119
 go_wp2_with fail
 rw [←HW2.out];go_loopw [7,8] (fun v i wr=>D2Rel f l w W2 v i wr) (fun _ i _=>l.length - (intOf i).toNat)
 case atStart=>
  refine⟨0,0,[],fun _ _=>none,Nat.zero_le _,rfl,Nat.le_refl _,?_,by simp [Zby],Lib.hid ⟨by simp [Zby],.inl ⟨rfl,rfl⟩⟩,?_,Lib.hid (fun _ _ _ h=>by cases h),But.refl _ _ _⟩
  · rw [List.drop_zero];exact(Zqf _).symm
  · rw [HW2.out];have:=MpT.made (w.alloc (.cells #[.int .i64 0,.int .i64 0] 39));rw [World.size_alloc] at this;exact this
 case round=>
  obtain⟨k,n,out,M,hk,rfl,hn,he,hol,hown,hM,hMf,hb⟩:=hrel;have hz:=hb.size;have hbw:Below w.heap.size w wr:=by
   have h2:Below w.heap.size w W2:=by rw [HW2.out];exact((Below.refl _ _).alloc (Nat.le_refl _) _).alloc (by simp) _
   exact h2.trans ((hb.mono (by omega)).below (by omega))
  have hG0:Grd wr:=hG.below hbw;have hwr1:w.heap.size<wr.heap.size:=by omega
  have hwr2:w.heap.size+1<wr.heap.size:=by omega
  by_cases hlt:k<l.length
  · have hg:=getB l k hlt;by_cases hlow:l[k].toNat<128
    · have hst:=Zqh f l k hlt hlow;have he2:Zj f l 0=Zav (out++[(l[k].toNat:Int)]) (Zj f (l.drop (k+1)) (k+1)):=by rw [he,hst,Zkl]
      have He2:=Lib.hid he2;have ee:Hid (Zc (out++[(l[k].toNat:Int)])=Zc out++[l[k]]):=Lib.hid (by rw [Zis,ZdC (by omega) (by omega)];congr 2;simp);clear he he2 hst;go_wp2_with (at_builtin;refine app_u8 rfl _ _ rfl (w.heap.size+2) u7 (Zc out) rfl wr (l[k]) _ rfl hown.out (by omega) (by omega) rfl ?_;intro v6 w6 HO6 hb6;have HB6:=Lib.hid hb6;clear hb6)
      go_roundw
      case rel=>
       refine⟨k+1,n,_,M,by omega,by go_num,by omega,He2.out,by rw [ee.out,List.length_append,List.length_singleton];omega,Lib.hid (by rw [ee.out];exact HO6.out),hM.same (HB6.out.block _ (by omega)),hMf,hb.trans (But.of HB6.out)⟩
      case measure=>simp [intOf];omega
    · have hh:128≤(l[k].toNat:Int):=by omega
      by_cases hsh:l.length=k+1
      · have hr:=Zqj f l k hlt hlow hsh;have he2:Zj f l 0= .inr k:=by rw [he,hr];rfl
        have He2:=Lib.hid he2;have hF:=hb.block w.heap.size (by omega) (by omega);rw [HW2.out,Below.heap_alloc _ _ _ (by simp),heap_alloc_new] at hF;obtain⟨q0,q1,q2,q3⟩:=ZbD hF;clear he he2 hr hF hown hM hMf hol;go_wp2_with fail
        refine bodyPost_ret (v:= .tuple #[.string ⟨#[]⟩,.agg #[.int .i64 2,.int .i64 k]]) (by simp [results,Tryz.results119,go_sem,q0,q1]) rfl ?_;exact HP.out (.inr k) _ He2.out ((hbw.setCell (Nat.le_refl _) _).setCell (Nat.le_refl _) _)
      · have hk1:k+1<l.length:=by omega
        have hg1:=getB l (k+1) hk1;have hgk:((k:Int)+1).toNat=k+1:=by omega
        have hF:=hb.block w.heap.size (by omega) (by omega);rw [HW2.out,Below.heap_alloc _ _ _ (by simp),heap_alloc_new] at hF;have hkn:¬(l.length:Int) - k<2:=by omega
        have hfe:=hsg (l[k]) (l[k+1]);have hl8:=hlen2 (l[k]) (l[k+1]);by_cases hf0:f l[k] l[k+1]=[]
        · have hr:=Zqi f l k hk1 hlow hf0;have he2:Zj f l 0= .inr k:=by rw [he,hr];rfl
          have He2:=Lib.hid he2;clear he he2 hr;generalize hx0:l[k]=x at*;generalize hy0:l[k+1]=y at*;have hts:Zc (f x y)=[]:=by rw [hf0];rfl
          have hM1:=((hM.below ((Below.refl _ wr).alloc (Nat.le_refl _) (.cells #[.int .u8 x.toNat,.int .u8 y.toNat] 261))).below ((Below.refl _ _).drew))
          have HF:=Lib.hid hF;rw [hts,show B []=⟨#[]⟩ from rfl] at hfe;clear hsg hlen2 hf0 hl8;cases hMx:M x y with
          |none=>
           have hMx':=hMx;clear hMx hMf hown;go_wp2_with fail
           go_region
           go_wp2_with (first
            |(at_lookup;refine mt_no rfl _ _ rfl hM1 rfl x y rfl hMx' ?_;intro t0)
            |(go_at_call 195;refine(hfe _ ((hG0.alloc _).below ((Below.refl _ _).drew)|>.alloc _).db).mono ?_;rintro e w1 ⟨rfl,hb1⟩;obtain⟨hc1,hf1⟩:=Zc5 hb1;have HX1:=Lib.hid hb1;have hM3:=(hM.below (Zg8 _ _ _ _ _ _ hb1).1).same (Zf8 (w:=w1) (k:=wr.heap.size+1) (j:=0) (g:=w.heap.size+1) (by omega) (.string ⟨#[]⟩)))
            |(at_mapUpdate;refine ZlA rfl _ _ _ rfl hM3 rfl x y rfl [] rfl (by omega) ?_;intro w4 hM4 hg4;obtain⟨q4,hbt4⟩:=Zki _ _ _ _ _ _ _ _ (by omega) HX1.out hg4;have hF4:=ZbD ((hbt4.block w.heap.size (by omega) (by omega)).trans hF);obtain⟨p0,p1,p2,p3⟩:=hF4;have HT4:=Lib.hid hbt4;have HM4:=Lib.hid hM4;clear hbt4 hM4 hg4))
           refine bodyPost_ret (v:= .tuple #[.string ⟨#[]⟩,.agg #[.int .i64 2,.int .i64 k]]) (by simp [results,Tryz.results119,go_sem,p0,p1]) rfl ?_;exact HP.out (.inr k) _ He2.out ((((hbw.trans ((HT4.out.mono hbw.size).below (by omega))).setCell (Nat.le_refl _) _).setCell (Nat.le_refl _) _))
          |some tt=>
           have htt:tt=[]:=by rw [hMf.out x y tt hMx,hts]
           subst htt;have hMx':=hMx;clear hMx hMf hown hfe;have qF:=ZbD hF;obtain⟨p0,p1,p2,p3⟩:=qF;go_wp2_with fail
           go_region
           go_wp2_with (first
            |(at_lookup;refine ZrB rfl _ _ rfl hM1 rfl x y rfl hMx' ?_))
           refine bodyPost_ret (v:= .tuple #[.string ⟨#[]⟩,.agg #[.int .i64 2,.int .i64 k]]) (by simp [results,Tryz.results119,go_sem,p0,p1,hwr1]) rfl ?_;exact HP.out (.inr k) _ He2.out (((((hbw.setCell (Nat.le_refl _) _).setCell (Nat.le_refl _) _).alloc (by simp [World.setCell];omega) _).alloc (by simp [World.setCell];omega) _).drew)
        · have hr:=Zqk f l k hk1 hlow hf0;have he2:Zj f l 0=Zav (out++f l[k] l[k+1]) (Zj f (l.drop (k+2)) (k+2)):=by rw [he,hr,Zkl]
          have hto:Zc (out++f l[k] l[k+1])=Zc out++Zc (f l[k] l[k+1]):=ZeM _ _;have htn:Zc (f l[k] l[k+1])≠[]:=by
           intro h;cases hq:f l[k] l[k+1] with
           |nil=>exact hf0 hq
           |cons p ps=>rw [hq,Zax] at h;exact Zhg p (List.append_eq_nil_iff.1 h).1
          clear he hr hsg hlen2;generalize hx0:l[k]=x at*;generalize hy0:l[k+1]=y at*;have Hts:=Lib.hid (show Zc (f x y)=Zc (f x y) from rfl);have hMf2:∀tt,M x y=some tt→tt=Zc (f x y):=fun tt h=>hMf.out x y tt h;generalize hgt:Zc (f x y)=ts at*;have Hgt:=Lib.hid hgt;have He2:=Lib.hid he2;have Hto:=Lib.hid hto;have hts1:(B ts).toList.isEmpty=false:=ZpN htn;clear hgt he2 hto Hts hf0;have hM1:=((hM.below ((Below.refl _ wr).alloc (Nat.le_refl _) (.cells #[.int .u8 x.toNat,.int .u8 y.toNat] 261))).below ((Below.refl _ _).drew))
          cases hMx:M x y with
          |none=>
           have hMx':=hMx;clear hMx hMf2;go_wp2_with fail
           go_region
           go_wp2_with (first
            |(at_lookup;refine mt_no rfl _ _ rfl hM1 rfl x y rfl hMx' ?_;intro t0)
            |(go_at_call 195;refine(hfe _ ((hG0.alloc _).below ((Below.refl _ _).drew)|>.alloc _).db).mono ?_;rintro e w1 ⟨rfl,hb1⟩;obtain⟨hc1,hf1⟩:=Zc5 hb1;have HX1:=Lib.hid hb1;have hM3:=(hM.below (Zg8 _ _ _ _ _ _ hb1).1).same (Zf8 (w:=w1) (k:=wr.heap.size+1) (j:=0) (g:=w.heap.size+1) (by omega) (.string (B ts))))
            |(at_mapUpdate;refine ZlA rfl _ _ _ rfl hM3 rfl x y rfl ts rfl (by omega) ?_;intro w4 hM4 hg4;obtain⟨q4,hbt4⟩:=Zki _ _ _ _ _ _ _ _ (by omega) HX1.out hg4;have HT4:=Lib.hid hbt4;have HM4:=Lib.hid hM4;have hz4:=hbt4.size;clear hbt4 hM4 hg4)
            |(at_builtin;refine ZjP rfl _ _ rfl (w.heap.size+2) u7 (Zc out) rfl w4 ts (Zb8 hown.out HT4.out (by omega)) (by omega) (by omega) (by omega) rfl ?_;intro v6 w6 HO6 hb6;have HB6:=Lib.hid hb6;clear hb6))
           go_roundw
           case rel=>
            refine⟨k+2,n+1,_,_,by omega,by go_num,by omega,He2.out,by rw [Hto.out,List.length_append];omega,Lib.hid (by rw [Hto.out];exact HO6.out),HM4.out.same (HB6.out.block _ (by omega)),Lib.hid ?_,hb.trans ((HT4.out.mono (by omega)).trans (But.of HB6.out))⟩;intro a b t h;by_cases e:a=x∧b=y
            · simp only [e,and_self,if_true,Option.some.injEq] at h;rw [←h,e.1,e.2];exact Hgt.out.symm
            · simp only [e,if_false] at h;exact hMf.out a b t h
           case measure=>simp [intOf];omega
          |some tt=>
           obtain rfl:=hMf2 tt hMx;have hMx':=hMx;clear hMx hMf2 hfe;go_wp2_with fail
           go_region
           go_wp2_with (first
            |(at_lookup;refine ZlB rfl _ _ rfl hM1 rfl x y rfl hMx' ?_)
            |(at_builtin;refine ZjP rfl _ _ rfl (w.heap.size+2) u7 (Zc out) rfl _ tt (ZE hown.out (Zkj _ _ _ _ _)) (by simp [World.drew];omega) (by omega) (by omega) rfl ?_;intro v6 w6 HO6 hb6;have HB6:=Lib.hid hb6;clear hb6))
           go_roundw
           case rel=>
            have hbd:=Zkj wr #[.int .u8 x.toNat,.int .u8 y.toNat] (.string (B tt)) 261 263;refine⟨k+2,n,_,_,by omega,by go_num,by omega,He2.out,by rw [Hto.out,List.length_append];omega,Lib.hid (by rw [Hto.out];exact HO6.out),(hM.below hbd).same (HB6.out.block _ (by omega)),hMf,hb.trans (But.of ((hbd.mono (by omega)).trans HB6.out))⟩
           case measure=>simp [intOf];omega
  · have hke:k=l.length:=by omega
    subst hke;have hr:=Zqg f l l.length (Nat.le_refl _);have he2:Zj f l 0= .inl out:=by rw [he,hr];simp [Zav]
    have He2:=Lib.hid he2;have hcv:=Zg7 wr hown.out;have hF:=hb.block w.heap.size (by omega) (by omega);rw [HW2.out,Below.heap_alloc _ _ _ (by simp),heap_alloc_new] at hF;obtain⟨q0,q1,q2,q3⟩:=ZbD hF;clear he he2 hr hF hown hM hMf hol;go_wp2_with fail
    refine bodyPost_ret (v:= .tuple #[.string (B (Zc out)),.agg #[.int .i64 0,.int .i64 0]]) (by simp [results,Tryz.results119,go_sem,q0,q1]) rfl ?_;exact HP.out (.inl out) _ He2.out ((hbw.setCell (Nat.le_refl _) _).setCell (Nat.le_refl _) _)
end Go.Proofs.YtlglfmbccihopaaGreatDoor
namespace Go.Proofs.YtlglfmbccihopaaGreatDoor
open Go Go.RowKit
theorem F2 {w w1:World} {T:TypeId} {a b:Value} (hb:Below (w.alloc (.cells #[a,b] T)).heap.size (w.alloc (.cells #[a,b] T)) w1):w1.heap[w.heap.size]? =some (.cells #[a,b] T (0,0)):=by
 rw [hb.block _ (by simp),heap_alloc_new]
theorem ZnN (c:Nat)(hc:c≤3)(l:List UInt8)(hl:l.length≤100000)(w:World)(hG:Grd w):
 Calls Tryz.prog 62 #[.int .i64 c,.string (B l)] w fun e w'=>e= .returned (.tuple #[.string (B (Zc (l.map fun x=>ZaR c x.toNat))),.agg #[.int .i64 0,.int .i64 0]])∧Below w.heap.size w w':=by
 have hof:=fun w hT=>ZoV c hc w hT;have hde:=fun{A} {cp} {q} {rs} hL hn w h hT=>ZiX hc (A:=A) (cp:=cp) (q:=q) (rs:=rs) (B l) hL (by rw [Zt];exact hl) hn w h hT;rw [show tB ((B l).data.toList.map fun x=>ZaR c x.toNat)=B (Zc (l.map fun x=>ZaR c x.toNat)) by rw [Zbn];rfl] at hde;generalize B (Zc (l.map fun x=>ZaR c x.toNat))=R at*;have hT:=hG.tabs;unfold ZaW at hof;rcases(show c=0∨c=1∨c=2∨c=3 by omega) with rfl|rfl|rfl|rfl
 all_goals
  go_enter Tryz.func62,Tryz.ntmps62
  go_wp2_with (first
   |(go_at_call 117;refine(hof _ (Zx hT _)).mono ?_;rintro e w1 ⟨A,cp,rs,rfl,h1,h2,h3,h4,hb1⟩;have T1:=ZU (Zx hT _) hb1 (Nat.le_refl _);have HF:=Lib.hid (F2 hb1);have HB:=Lib.hid (Zd hb1);have H4:=Lib.hid h4;clear hb1 h4)
   |(go_at_call 118;refine(hde H4.out h2 _ ((h3.below ((Below.refl _ _).alloc (Nat.le_refl _) _)).more (by simp)) (Zx T1 _)).mono ?_;rintro e w2 ⟨rfl,hb2⟩;have hF2:=(Zd hb2).block w.heap.size (Array.getElem?_eq_some_iff.1 HF.out).1;rw [HF.out] at hF2;have hB2:=HB.out.trans ((Zd hb2).mono HB.out.size);obtain⟨q0,q1,q2,q3⟩:=ZbD hF2;have HF2:=Lib.hid hF2;have HB2:=Lib.hid hB2;clear hb2 hF2 hB2))
  refine bodyPost_ret (v:= .tuple #[.string R,.agg #[.int .i64 0,.int .i64 0]]) (by simp [results,Tryz.results62,go_sem,q0,q1]) rfl ⟨rfl,?_⟩;exact(HB2.out.setCell (Nat.le_refl _) _).setCell (Nat.le_refl _) _
theorem ZiU (r:Za4):∃s e a,D2V r= .tuple #[.string s,.agg #[.int .i64 e,.int .i64 a]]:=by
 cases r with
 |inl ps=>exact⟨_,_,_,rfl⟩
 |inr n=>exact⟨_,_,_,rfl⟩
theorem ZnO (c:Nat)(hc:4≤c∧c≤6)(l:List UInt8)(hl:l.length≤100000)(w:World)(hG:Grd w):
 Calls Tryz.prog 62 #[.int .i64 c,.string (B l)] w (ZaV (Zj (sg2 c) l 0) w):=by
 have hd:=fun w hG=>Zn5 c hc l hl w hG;unfold ZaV at hd⊢;generalize Zj (sg2 c) l 0=r at*;obtain⟨s,x,a,hr⟩:=ZiU r;rw [hr] at hd⊢;rcases(show c=4∨c=5∨c=6 by omega) with rfl|rfl|rfl
 all_goals
  go_enter Tryz.func62,Tryz.ntmps62
  go_wp2_with (go_at_call 119;refine(hd _ (hG.alloc _)).mono ?_;rintro e w1 ⟨rfl,hb1⟩;have HF:=Lib.hid (F2 hb1);obtain⟨q0,q1,q2,q3⟩:=ZbD HF.out;have HB:=Lib.hid (Zd hb1);clear hb1)
  refine bodyPost_ret (v:= .tuple #[.string s,.agg #[.int .i64 x,.int .i64 a]]) (by simp [results,Tryz.results62,go_sem,q0,q1]) rfl ⟨rfl,?_⟩;exact(HB.out.setCell (Nat.le_refl _) _).setCell (Nat.le_refl _) _
theorem ZiP (big:Bool)(l:List UInt8)(hl:l.length≤100000)(w:World):
 Calls Tryz.prog 62 #[.int .i64 (if big then 9 else 8),.string (B l)] w (ZaV (ZbX big l) w):=by
 have hd:∀w,Calls Tryz.prog 79 #[.string (B l),.bool big] w (ZaV (ZbX big l) w):=by
  intro w;rcases Zgl big l with⟨ps,h,e⟩|⟨n,h,e⟩
  · rw [e];exact(Zpy big (B l) ps h (by rw [Zt];omega) w).mono fun e w' h=>⟨h.1,h.2⟩
  · rw [e];exact(Zpx big (B l) n h (by rw [Zt];omega) w).mono fun e w' h=>⟨h.1,h.2⟩
 unfold ZaV at hd⊢;generalize ZbX big l=r at*;obtain⟨s,x,a,hr⟩:=ZiU r;rw [hr] at hd⊢;cases big
 all_goals
  go_enter Tryz.func62,Tryz.ntmps62
  go_wp2_with (go_at_call 79;refine(hd _).mono ?_;rintro e w1 ⟨rfl,hb1⟩;have HF:=Lib.hid (F2 hb1);obtain⟨q0,q1,q2,q3⟩:=ZbD HF.out;have HB:=Lib.hid (Zd hb1);clear hb1)
  refine bodyPost_ret (v:= .tuple #[.string s,.agg #[.int .i64 x,.int .i64 a]]) (by simp [results,Tryz.results62,go_sem,q0,q1]) rfl ⟨rfl,?_⟩;exact(HB.out.setCell (Nat.le_refl _) _).setCell (Nat.le_refl _) _
theorem Znl {l:List UInt8} {ps:List Int} (h:Good ⟨l.toArray⟩ ps):Zc ps=l:=by
 have:=h.1;simpa using this.symm
theorem ZnP (l:List UInt8)(hl:l.length≤100000)(w:World)(hG:Grd w):
 Calls Tryz.prog 62 #[.int .i64 7,.string (B l)] w (ZaV (Zce l) w):=by
 have hT:=hG.tabs;rcases ZdY l with⟨ps,h,e⟩|⟨n,h,e⟩
 · rw [e];unfold ZaV D2V;simp only;rw [Znl h];have hck:=fun w hT=>ZiR (B l) ps h (by rw [Zt];omega) w hT;have hbd:=fun w=>ZaG 0 0 rfl w;clear h e;go_enter Tryz.func62,Tryz.ntmps62
   go_wp2_with (first
    |(go_at_call 120;refine(hck _ (Zx hT _)).mono ?_;rintro e w1 ⟨rfl,hb1⟩;have HF:=Lib.hid (F2 hb1);have HB:=Lib.hid (Zd hb1);clear hb1)
    |(go_at_call 8;refine(hbd _).mono ?_;rintro e w2 ⟨rfl,hb2⟩;have hF2:=(Zd hb2).block w.heap.size (Array.getElem?_eq_some_iff.1 HF.out).1;rw [HF.out] at hF2;have hB2:=HB.out.trans ((Zd hb2).mono HB.out.size);obtain⟨q0,q1,q2,q3⟩:=ZbD hF2;have HB2:=Lib.hid hB2;clear hb2 hF2 hB2))
   refine bodyPost_ret (v:= .tuple #[.string (B l),.agg #[.int .i64 0,.int .i64 0]]) (by simp [results,Tryz.results62,go_sem,q0,q1]) rfl ⟨rfl,?_⟩;exact(HB2.out.setCell (Nat.le_refl _) _).setCell (Nat.le_refl _) _
 · rw [e];unfold ZaV D2V;simp only;have hck:=fun w hT=>ZnT (B l) n h (by rw [Zt];omega) w hT;have hbd:=fun w=>ZcB 2 n (by decide) w;clear h e;go_enter Tryz.func62,Tryz.ntmps62
   go_wp2_with (first
    |(go_at_call 120;refine(hck _ (Zx hT _)).mono ?_;rintro e w1 ⟨rfl,hb1⟩;have HF:=Lib.hid (F2 hb1);have HB:=Lib.hid (Zd hb1);clear hb1)
    |(go_at_call 8;refine(hbd _).mono ?_;rintro e w2 ⟨rfl,hb2⟩;have hF2:=(Zd hb2).block w.heap.size (Array.getElem?_eq_some_iff.1 HF.out).1;rw [HF.out] at hF2;have hB2:=HB.out.trans ((Zd hb2).mono HB.out.size);obtain⟨q0,q1,q2,q3⟩:=ZbD hF2;have HB2:=Lib.hid hB2;obtain⟨b0,b1,f0,f1⟩:=ZbD (F2 hb2);clear hb2 hF2 hB2))
   go_region
   go_wp2_with fail
   refine bodyPost_ret (v:= .tuple #[.string ⟨#[]⟩,.agg #[.int .i64 2,.int .i64 n]]) (by simp [results,Tryz.results62,go_sem,q0,q1]) rfl ⟨rfl,?_⟩;exact((HB2.out.setCell (Nat.le_refl _) _).setCell (Nat.le_refl _) _).drew
theorem Zd6 (c:Nat)(hc:c≤9)(l:List UInt8)(hl:l.length≤100000)(w:World)(hG:Grd w):
 Calls Tryz.prog 62 #[.int .i64 c,.string (B l)] w (ZaV (ZC c l) w):=by
 unfold ZC;by_cases h3:c≤3
 · rw [if_pos h3];exact ZnN c h3 l hl w hG
 rw [if_neg h3];by_cases h6:c≤6
 · rw [if_pos h6];exact ZnO c (by omega) l hl w hG
 rw [if_neg h6];by_cases h7:c=7
 · subst h7;rw [if_pos rfl];exact ZnP l hl w hG
 rw [if_neg h7];rcases(show c=8∨c=9 by omega) with rfl|rfl
 · exact ZiP false l hl w
 · exact ZiP true l hl w
theorem Zs1 {c:Nat} (hc:c≤3)(x:UInt8):Zf (ZaR c x.toNat)=true:=ZmT hc x.toNat_lt
theorem Zqn {c:Nat} (l:List UInt8)(ps:List Int)(h:ZC c l= .inl ps):∀p∈ps,Zf p=true:=by
 unfold ZC at h;split at h
 · rename_i hc
   injection h with h;subst h
   intro p hp;obtain⟨x,_,rfl⟩:=List.mem_map.1 hp;exact Zs1 hc x
 · split at h
   · exact Zhc _ (Zs0 c) l 0 ps h
   · split at h
     · rcases ZdY l with⟨qs,hq,e⟩|⟨n,hq,e⟩
       · rw [e] at h;injection h with h;subst h;exact hq.2
       · rw [e] at h;cases h
     · rcases Zgl (c==9) l with⟨qs,hq,e⟩|⟨n,hq,e⟩
       · rw [e] at h;injection h with h;subst h;exact hq.2
       · rw [e] at h;cases h
theorem ZiW (p:Int)(w:World):Calls Tryz.prog 245 #[.int .i32 p] w fun e w'=>e= .returned (.bool (Zct p))∧w=w':=by
 by_cases h0:p=1169
 · subst h0;go_enter Tryz.func245,Tryz.ntmps245
   go_wp2_with fail
   go_ret
   exact⟨rfl,rfl⟩
 have hb:(p==1169)=false:=by simpa using h0
 go_enter Tryz.func245,Tryz.ntmps245
 go_wp2
 all_goals go_ret
 all_goals refine⟨Zh7 ?_,rfl⟩
 all_goals (unfold Zct;rw [Bool.eq_iff_iff];simp;omega)
theorem ZiV (p:Int)(w:World):Calls Tryz.prog 244 #[.int .i32 p] w fun e w'=>e= .returned (.bool (Zco p))∧w=w':=by
 by_cases h0:p=1168
 · subst h0;go_enter Tryz.func244,Tryz.ntmps244
   go_wp2_with fail
   go_ret
   exact⟨rfl,rfl⟩
 have hb:(p==1168)=false:=by simpa using h0
 go_enter Tryz.func244,Tryz.ntmps244
 go_wp2
 all_goals go_ret
 all_goals refine⟨Zh7 ?_,rfl⟩
 all_goals (unfold Zco;rw [Bool.eq_iff_iff];simp;omega)
theorem Zn2 (p:Int)(w:World):Calls Tryz.prog 297 #[.int .i32 p] w fun e w'=>e= .returned (.int .i64 (ZdR p))∧w=w':=by
 go_enter Tryz.func297,Tryz.ntmps297
 go_wp2
 all_goals go_ret
 all_goals refine⟨ZaC ?_,rfl⟩
 all_goals (unfold ZdR;(repeat' split)<;>first|omega|(simp at* <;>omega))
theorem Zn1 (p:Int)(w:World):Calls Tryz.prog 298 #[.int .i32 p] w fun e w'=>e= .returned (.int .i64 (ZdK p))∧w=w':=by
 go_enter Tryz.func298,Tryz.ntmps298
 go_wp2
 all_goals go_ret
 all_goals refine⟨ZaC ?_,rfl⟩
 all_goals (unfold ZdK;(repeat' split)<;>first|omega|(simp at* <;>omega))
theorem ZnZ (p:Int)(w:World):Calls Tryz.prog 301 #[.int .i32 p] w fun e w'=>e= .returned (.int .i64 (Zdv p))∧w=w':=by
 go_enter Tryz.func301,Tryz.ntmps301
 go_wp2
 all_goals go_ret
 all_goals refine⟨ZaC ?_,rfl⟩
 all_goals (unfold Zdv;(repeat' split)<;>first|omega|(simp at* <;>omega))
theorem Zn3 (p:Int)(w:World):Calls Tryz.prog 299 #[.int .i32 p] w fun e w'=>e= .returned (.int .i64 (Zdo p))∧w=w':=by
 have hl:=fun w=>ZiW p w;have hc:=fun w=>ZiV p w;have hr:Zdo p=if Zct p then 4 else if Zco p then 2 else -4:=rfl
 generalize Zdo p=r at*;generalize Zct p=a at*;generalize Zco p=b at*;cases a
 · cases b
   · obtain rfl:r= -4:=by rw [hr];rfl
     clear hr;go_enter Tryz.func299,Tryz.ntmps299
     go_wp2_with (first|(go_at_call 245;refine(hl _).mono ?_;rintro e w1 ⟨rfl,rfl⟩)|(go_at_call 244;refine(hc _).mono ?_;rintro e w1 ⟨rfl,rfl⟩))
     go_ret
     exact⟨rfl,rfl⟩
   · obtain rfl:r=2:=by rw [hr];rfl
     clear hr;go_enter Tryz.func299,Tryz.ntmps299
     go_wp2_with (first|(go_at_call 245;refine(hl _).mono ?_;rintro e w1 ⟨rfl,rfl⟩)|(go_at_call 244;refine(hc _).mono ?_;rintro e w1 ⟨rfl,rfl⟩))
     go_ret
     exact⟨rfl,rfl⟩
 · obtain rfl:r=4:=by rw [hr];rfl
   clear hr;go_enter Tryz.func299,Tryz.ntmps299
   go_wp2_with (first|(go_at_call 245;refine(hl _).mono ?_;rintro e w1 ⟨rfl,rfl⟩)|(go_at_call 244;refine(hc _).mono ?_;rintro e w1 ⟨rfl,rfl⟩))
   go_ret
   exact⟨rfl,rfl⟩
theorem Zn0 (p:Int)(w:World):Calls Tryz.prog 300 #[.int .i32 p] w fun e w'=>e= .returned (.int .i64 (ZbR p))∧Below w.heap.size w w':=by
 by_cases h:44032≤p∧p≤55203
 · obtain⟨n,rfl⟩:∃n:Nat,p=44032+(n:Int):=⟨(p - 44032).toNat,by omega⟩
   have hr:=fun w=>Ze7 n (by omega) w;have hk:ZbR (44032+(n:Int))=if ZF n then 6 else 2:=by
    unfold ZbR;rw [if_pos h,show((44032:Int)+n - 44032).toNat=n by omega]
   clear h;generalize cnt (ZF n) n=k at*;generalize ZbR (44032+(n:Int))=r at*;generalize ZF n=b at*;cases b
   · obtain rfl:r=2:=by rw [hk];rfl
     clear hk;go_enter Tryz.func300,Tryz.ntmps300
     go_wp2_with (go_at_call 338;refine(hr _).mono ?_;rintro e w1 ⟨rfl,hb1⟩)
     go_ret
     exact⟨rfl,hb1⟩
   · obtain rfl:r=6:=by rw [hk];rfl
     clear hk;go_enter Tryz.func300,Tryz.ntmps300
     go_wp2_with (go_at_call 338;refine(hr _).mono ?_;rintro e w1 ⟨rfl,hb1⟩)
     go_ret
     exact⟨rfl,hb1⟩
 · have hr:=fun w=>Zjl p (by omega) w;have hk:ZbR p=if 12593≤p∧p≤12686 then -2 else 1:=by unfold ZbR;rw [if_neg h]
   generalize ZbR p=r at*;clear h;by_cases h1:12593≤p∧p≤12686
   · obtain rfl:r= -2:=by rw [hk,if_pos h1]
     obtain⟨a0,a1⟩:=h1;clear hk;go_enter Tryz.func300,Tryz.ntmps300
     go_wp2_with (go_at_call 338;refine(hr _).mono ?_;rintro e w1 ⟨rfl,hb1⟩)
     go_ret
     exact⟨rfl,hb1⟩
   · obtain rfl:r=1:=by rw [hk,if_neg h1]
     clear hk;by_cases h2:12593≤p
     · have h3:¬p≤12686:=by omega
       clear h1;go_enter Tryz.func300,Tryz.ntmps300
       go_wp2_with (go_at_call 338;refine(hr _).mono ?_;rintro e w1 ⟨rfl,hb1⟩)
       go_ret
       exact⟨rfl,hb1⟩
     · clear h1;go_enter Tryz.func300,Tryz.ntmps300
       go_wp2_with (go_at_call 338;refine(hr _).mono ?_;rintro e w1 ⟨rfl,hb1⟩)
       go_ret
       exact⟨rfl,hb1⟩
theorem Zn4 (c:Nat)(hc:c≤6)(p:Int)(w:World):Calls Tryz.prog 243 #[.int .i64 c,.int .i32 p] w fun e w'=>e= .returned (.int .i64 (ZbK c p))∧Below w.heap.size w w':=by
 have c1:=fun w=>Zn2 p w;have c2:=fun w=>Zn1 p w;have c3:=fun w=>Zn3 p w;have c4:=fun w=>Zn0 p w;have c5:=fun w=>ZnZ p w;have hw:ZbK c p=if p<128 then ZdR p else if c=0 then ZdK p else if c≤3 then Zdo p else if c=4∨c=5 then ZbR p else Zdv p:=rfl
 rw [hw];clear hw;generalize ZdR p=x1 at*;generalize ZdK p=x2 at*;generalize Zdo p=x3 at*;generalize ZbR p=x4 at*;generalize Zdv p=x5 at*;by_cases h:p<128
 · rw [if_pos h];go_enter Tryz.func243,Tryz.ntmps243
   go_wp2_with (go_at_call 297;refine(c1 _).mono ?_;rintro e w1 ⟨rfl,rfl⟩)
   go_ret
   exact⟨rfl,Below.refl _ _⟩
 · rw [if_neg h];rcases(show c=0∨c=1∨c=2∨c=3∨c=4∨c=5∨c=6 by omega) with rfl|rfl|rfl|rfl|rfl|rfl|rfl
   all_goals
    go_enter Tryz.func243,Tryz.ntmps243
    go_wp2_with (first|(go_at_call 298;refine(c2 _).mono ?_;rintro e w1 ⟨rfl,rfl⟩)|(go_at_call 299;refine(c3 _).mono ?_;rintro e w1 ⟨rfl,rfl⟩)|(go_at_call 300;refine(c4 _).mono ?_;rintro e w1 ⟨rfl,hb1⟩)|(go_at_call 301;refine(c5 _).mono ?_;rintro e w1 ⟨rfl,rfl⟩))
    go_ret
    first|exact⟨rfl,Below.refl _ _⟩|exact⟨rfl,hb1⟩
end Go.Proofs.YtlglfmbccihopaaGreatDoor
namespace Go.Proofs.YtlglfmbccihopaaGreatDoor
open Go Go.RowKit Go.Maps
theorem Zlj:Keyed Tryz.prog 21:=int_keyed Tryz.underlying21
theorem zeroW (w:World):(zeroValue 3).run Tryz.prog w= .ok (.int .i64 0) w:=by kernel_rfl
theorem Zns {p:Int} (h: -2147483648≤p∧p<2147483648):(Lit.int .i32 p).wf=true:=by
 simp [Lit.wf,IntKind.min,IntKind.max,IntKind.bits,IntKind.signed];omega
theorem Zt3 {c:Int} (h: -1000≤c∧c≤1000):(Lit.int .i64 c).wf=true:=by
 simp [Lit.wf,IntKind.min,IntKind.max,IntKind.bits,IntKind.signed];omega
def MpW (w:World)(b n:Nat)(M:Int→Option Int):Prop:=∃D:DataW Unit,w.ownsMap Tryz.prog 21 (plainElem Tryz.prog 3) b n D∧(∀p:Int,(M p).isSome=Maps.has D (.int .i32 p))∧∀(p:Int) (c:Int),M p=some c→∀z,D.atKey (.int .i32 p) z= .lit (.int .i64 c)
theorem MpW.made (w:World):MpW (w.alloc (.map #[] 0)) w.heap.size 0 (fun _=>none):=⟨.map [],World.ownsMap_made _ _ _ _,fun _=>rfl,fun _ _ h=>by cases h⟩
theorem MpW.kept {w w':World} {b n:Nat} {M:Int→Option Int} {row:Option Nat} (h:MpW w b n M)(hg:w.grownBy w' row)(hne:some b≠row):MpW w' b n M:=by
 obtain⟨D,h1,h2⟩:=h;exact⟨D,h1.kept hg hne,h2⟩
theorem MpW.below {w w':World} {b n:Nat} {M:Int→Option Int} (h:MpW w b n M)(hb:Below w.heap.size w w'):MpW w' b n M:=
 h.kept (row:=none) ⟨hb.os,hb.tape,hb.output,hb.size,fun k hk _=>hb.block k hk⟩ (by simp)
section
variable {ops:Array Oper} {rest:List Oper} {o:Oper} {a:Act} {Q:Exit→Act→World→Prop} {w:World} {b n:Nat} {M:Int→Option Int}
theorem ZlC (hg:o.guard=none)(m x:Operand)(hop:o.op=Op.lookup 305 m x true)(h:MpW w b n M)(hm:a.eval m= .map (some b))(p:Int)(hx:a.eval x= .int .i32 p)(hp: -2147483648≤p∧p<2147483648)
 (hK:∀c:Int,(∀k,M p=some k→c=k)→wpList Tryz.prog ops Q rest (a.put o.dst (.tuple #[.int .i64 c,.bool (M p).isSome])) w):
 wpList Tryz.prog ops Q (o::rest) a w:=by
 obtain⟨D,h1,h2,h3⟩:=h;refine wpList_lookup_own_ok_int _ hg m x 305 hop 21 3 .i64 Zlj Tryz.underlying305 Tryz.underlying3 (zeroW _) b n D hm h1 (.int .i32 p) (.int .i32 p) hx (keyOf_int_mk Tryz.underlying21 (Zns hp)) ?_;intro c hat _;rw [←h2];refine hK c fun k hk=> ?_;rw [h3 p k hk] at hat;simpa using hat.symm
theorem mw_put (hg:o.guard=none)(m x v:Operand)(hop:o.op=Op.mapUpdate 305 m x v)(h:MpW w b n M)(hm:a.eval m= .map (some b))(p:Int)(hx:a.eval x= .int .i32 p)(hp: -2147483648≤p∧p<2147483648)(c:Int)(hv:a.eval v= .int .i64 c)(hc: -1000≤c∧c≤1000)(hn:n≤10000000)
 (hK:∀w',MpW w' b (n+1) (fun q=>if q=p then some c else M q)→w.grownBy w' (some b)→wpList Tryz.prog ops Q rest (a.put o.dst undef) w'):
 wpList Tryz.prog ops Q (o::rest) a w:=by
 obtain⟨D,h1,h2,h3⟩:=h;refine wpList_mapUpdate_own _ hg m x v 305 hop 21 3 Zlj Tryz.underlying305 _ b n D hm h1 (by unfold maxLen;omega) (.int .i32 p) (.int .i64 c) (.int .i32 p) hx hv (keyOf_int_mk Tryz.underlying21 (Zns hp)) (.lit (.int .i64 c)) [] (plainElem_int Tryz.underlying3 (Zt3 hc)) ?_;intro w' h4 h5;have hD:IsMap D:=by obtain⟨es,cl,_,_,_,rfl⟩:=h1;exact⟨_,rfl⟩
 refine hK w' ⟨_,h4,fun q=> ?_,fun q k hk z=> ?_⟩ h5
 · show(if q=p then some c else M q).isSome=_
   by_cases e:q=p
   · subst e;rw [if_pos rfl,has_put_same hD (show WideAt.IsKeyLit (.int .i32 q) from trivial)];rfl
   · rw [if_neg e,h2,has_put_other (by simpa using e)]
 · have hk:(if q=p then some c else M q)=some k:=hk;by_cases e:q=p
   · subst e;rw [if_pos rfl] at hk;injection hk with hk;subst hk;exact atKey_put_same hD (show WideAt.IsKeyLit (.int .i32 q) from trivial) _ _
   · rw [if_neg e] at hk;rw [atKey_put_other (by simpa using e)];exact h3 q k hk z
end
end Go.Proofs.YtlglfmbccihopaaGreatDoor
namespace Go.Proofs.YtlglfmbccihopaaGreatDoor
open Go Go.RowKit
theorem ZpU (w:World)(e:TypeId)(s:ByteArray)(j:Nat)(hj:j<s.size):(Lib.bytesWorld w e s).frozen? ⟨w.heap.size,j,none⟩=false:=by
 have h:=Lib.bytesWorld_at_new w e s;have hs:s.size≤(Lib.bytesCells w e s).size:=by simp [Lib.bytesCells]
 simp only [World.frozen?,h];simp;omega
theorem ZpT (w:World)(e:TypeId)(s:ByteArray):Below w.heap.size w (Lib.bytesWorld w e s):=
 ⟨rfl,rfl,rfl,by rw [Lib.bytesWorld_size];omega,fun k hk=>Lib.bytesWorld_at_old w e s k hk⟩
def Zbf (l:List UInt8)(k j:Nat):UInt8:=if j<k then ZeG (l.getD j 0) else l.getD j 0
def Zpd (l:List UInt8)(w0:World)(i:Value)(wr:World):Prop:=∃k:Nat,k≤l.length∧i= .int .i64 k∧Hid (∀j,j<l.length→wr.cell? ⟨w0.heap.size,j,none⟩=some (u8V (Zbf l k j))∧wr.frozen? ⟨w0.heap.size,j,none⟩=false)∧Below w0.heap.size w0 wr
theorem Zm1 (l:List UInt8)(k j:Nat)(h:j≠k):Zbf l (k+1) j=Zbf l k j:=by
 unfold Zbf;by_cases h1:j<k
 · rw [if_pos h1,if_pos (by omega)]
 · rw [if_neg h1,if_neg (by omega)]
theorem ZnS (l:List UInt8)(hl:l.length≤100000)(w:World):
 Calls Tryz.prog 183 #[.string (B l)] w fun e w'=>e= .returned (.string (B (ZbV l)))∧Below w.heap.size w w':=by
 have hsz:=Zt l;have hcv:=Lib.run_convert_string_bytes (P:=Tryz.prog) w 9 96 5 (B l) Tryz.underlying9 Tryz.underlying96 Tryz.underlying5;rw [hsz] at hcv;have h0:∀j,j<l.length→(Lib.bytesWorld w 5 (B l)).cell? ⟨w.heap.size,j,none⟩=some (u8V (Zbf l 0 j))∧(Lib.bytesWorld w 5 (B l)).frozen? ⟨w.heap.size,j,none⟩=false:=by
  intro j hj;refine⟨?_,ZpU w _ (B l) j (by rw [hsz];exact hj)⟩;rw [Lib.bytesWorld_cell w _ (B l) j (by rw [hsz];exact hj),Zbn];rfl
 have hb0:=ZpT w 5 (B l);have hz0:=Lib.bytesWorld_size w 5 (B l);generalize Lib.bytesWorld w 5 (B l)=W1 at*;generalize grownCap w l.length 0 5=cap at*;have H0:=Lib.hid h0;clear h0;go_enter Tryz.func183,Tryz.ntmps183
 go_wp2_with fail
 go_loopw [10] (fun i wr=>Zpd l w i wr) (fun i _=>l.length - (intOf i).toNat)
 case atStart=>exact⟨0,Nat.zero_le _,rfl,H0,hb0⟩
 case round=>
  obtain⟨k,hk,rfl,hcell,hb⟩:=hrel;have hz:=hb.size;by_cases hlt:k<l.length
  · obtain⟨c0,f0⟩:=hcell.out k hlt;have hs0:Zbf l k k=l[k]:=by unfold Zbf;rw [if_neg (by omega)];simp [List.getD,hlt]
    rw [hs0] at c0;have hx:=l[k].toNat_lt;by_cases hcap:65≤l[k].toNat∧l[k].toNat≤90
    · have hv:ZeG l[k]=l[k]+32:=by unfold ZeG;rw [if_pos hcap]
      have hvn:((l[k]+32).toNat:Int)=(l[k].toNat:Int)+97 - 65:=by
       rw [UInt8.toNat_add];have:(32:UInt8).toNat=32:=rfl;omega
      unfold u8V at c0;obtain⟨hcap0,hcap1⟩:=hcap;have hi0:65≤(l[k].toNat:Int):=by omega
      have hi1:(l[k].toNat:Int)≤90:=by omega
      generalize hyy:l[k]+32=y at*;generalize l[k].toNat=xn at*;have Hv:=Lib.hid hv;have Hvn:=Lib.hid hvn;clear hv hvn hyy hs0 hcap0 hcap1;go_wp2_with fail
      go_roundw
      case rel=>
       refine⟨k+1,by omega,by go_num,Lib.hid ?_,hb.setCell (p:=⟨w.heap.size,k,none⟩) (Nat.le_refl _) _⟩;intro j hj;refine⟨?_,by rw [World.frozen?_setCell];exact(hcell.out j hj).2⟩;by_cases e:j=k
       · subst e;rw [World.cell?_setCell_same _ _ _ c0];have hn:Zbf l (j+1) j=y:=by unfold Zbf;rw [if_pos (by omega),←Hv.out];simp [List.getD,hlt]
         rw [hn];unfold u8V;rw [Hvn.out]
       · rw [World.cell?_setCell_other _ _ _ _ (fun h=>e (by injection h with _ h2 _;exact h2.symm)),(hcell.out j hj).1,Zm1 l k j e]
      case measure=>simp [intOf];omega
    · have hv:Zbf l (k+1) k=Zbf l k k:=by unfold Zbf;rw [if_pos (by omega),if_neg (by omega)];simp [List.getD,hlt,ZeG,hcap]
      have Hv:=Lib.hid hv;have hcell':Hid (∀j,j<l.length→wr.cell? ⟨w.heap.size,j,none⟩=some (u8V (Zbf l (k+1) j))∧wr.frozen? ⟨w.heap.size,j,none⟩=false):=Lib.hid fun j hj=>by
       by_cases e:j=k
       · subst e;rw [Hv.out];exact hcell.out j hj
       · rw [Zm1 l k j e];exact hcell.out j hj
      unfold u8V at c0;clear hv;by_cases h1:65≤l[k].toNat
      · have hi0:65≤(l[k].toNat:Int):=by omega
        have hi1:¬(l[k].toNat:Int)≤90:=by omega
        generalize l[k].toNat=xn at*;clear hcap h1 hs0;go_wp2_with fail
        go_roundw
        case rel=>exact⟨k+1,by omega,by go_num,hcell',hb⟩
        case measure=>simp [intOf];omega
      · have hi0:¬65≤(l[k].toNat:Int):=by omega
        generalize l[k].toNat=xn at*;clear hcap h1 hs0;go_wp2_with fail
        go_roundw
        case rel=>exact⟨k+1,by omega,by go_num,hcell',hb⟩
        case measure=>simp [intOf];omega
  · have hke:k=l.length:=by omega
    subst hke;have hn:Zac wr (w.heap.size+1) .u8 (some ⟨w.heap.size,0,none⟩) ((ZbV l).map fun c:UInt8=>(c.toNat:Int)):=by
     refine⟨by simp,fun _=>⟨_,rfl,by simp,fun j u hu=> ?_⟩⟩;have hadd:(⟨w.heap.size,0,none⟩:Addr).add j=⟨w.heap.size,j,none⟩:=by unfold Addr.add;split<;>simp_all
     simp only [ZbV,List.map_map,List.getElem?_map,Option.map_eq_some_iff] at hu;obtain⟨c,hc,rfl⟩:=hu;have hj:j<l.length:=(List.getElem?_eq_some_iff.1 hc).1;rw [hadd,(hcell.out j hj).1];unfold Zbf u8V;rw [if_pos hj];simp [List.getD,hc]
    have hcv2:=Zfl (P:=Tryz.prog) 96 9 5 Tryz.underlying96 Tryz.underlying5 Tryz.underlying9 wr hn cap;rw [Zna,List.length_map,show(ZbV l).length=l.length by simp [ZbV]] at hcv2;clear hn hcell;go_wp2_with fail
    go_ret
    exact⟨rfl,hb⟩
end Go.Proofs.YtlglfmbccihopaaGreatDoor
