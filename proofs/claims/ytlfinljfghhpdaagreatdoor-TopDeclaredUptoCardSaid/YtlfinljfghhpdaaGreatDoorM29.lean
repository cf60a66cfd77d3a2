/- Lemmas for a statement on the tops; conditions: as each says. -/
import Derived.Lib.AppendStr
import Derived.Test.YtlfinljfghhpdaaGreatDoorM14
import Derived.Test.YtlfinljfghhpdaaGreatDoorM20
import Derived.Test.YtlfinljfghhpdaaGreatDoorM27
import Derived.Test.YtlfinljfghhpdaaGreatDoorM28
set_option linter.unusedVariables false
set_option linter.unusedSimpArgs false
set_option maxRecDepth 100000
set_option maxHeartbeats 4000000
namespace Go.Proofs.YtlfinljfghhpdaaGreatDoor
open Go Go.RowKit Go.Maps
structure Grd (w:World):Prop where
 tabs:Zj w
 db:DB w
 ml:ML w
theorem Grd.below {w w':World} (h:Grd w)(hb:Below w.heap.size w w'):Grd w':=⟨Zaz h.tabs hb (Nat.le_refl _),ZdI h.db hb (Nat.le_refl _),Zoy h.ml hb (Nat.le_refl _)⟩
theorem Grd.alloc {w:World} (h:Grd w)(o:Obj):Grd (w.alloc o):=h.below ((Below.refl _ _).alloc (Nat.le_refl _) _)
theorem Zns (p:Int):Zb [p]=Lib.encodeRune p:=by simp [Zb]
theorem ZnT (a b:UInt8)(w:World):
 Calls Tryz.prog 307 #[.int .u8 a.toNat,.int .u8 b.toNat] w fun e w'=>∃z,e= .returned (.tuple #[.string (B (Zb (Z5 a.toNat b.toNat))),.bool z])∧Below w.heap.size w w':=by
 have ha:=a.toNat_lt;have hb:=b.toNat_lt;refine(ZpO a.toNat b.toNat (by omega) (by omega) w).mono ?_;rintro e w' ⟨rfl,h⟩;exact⟨_,rfl,h⟩
theorem ZnX (c:Nat)(hc:4≤c∧c≤6)(a b:UInt8)(w:World)(hD:DB w):
 Calls Tryz.prog 237 #[.int .i64 c,.int .u8 a.toNat,.int .u8 b.toNat] w fun e w'=>e= .returned (.string (B (Zb (sg2 c a b))))∧Below w.heap.size w w':=by
 have ha:=a.toNat_lt;have hb:=b.toNat_lt;by_cases h4:c=4
 · subst h4;have hs:sg2 4 a b=if Zcp a b≠0∧Ze (Zcp a b)=true then [Zcp a b] else []:=by unfold sg2;rw [if_pos rfl]
   have hsg:=fun w hD=>ZpL (ZnC a b) (by omega) (by omega) w hD;rw [hs];generalize Zcp a b=p at*;clear hs;by_cases h0:p=0
   · subst h0;go_enter Tryz.func237,Tryz.ntmps237
     go_wp2_with (go_at_call 305;refine(hsg _ hD).mono ?_;rintro e w1 ⟨rfl,hb1⟩)
     go_ret
     exact⟨rfl,hb1⟩
   · have e1:(p !=0)=true:=by simpa using h0
     have e2:decide (p≠0)=true:=by simpa using h0
     by_cases hsc:Ze p=true
     · have ht:=fun c w=>ZgM p hsc c w;rw [if_pos ⟨h0,hsc⟩,Zns];go_enter Tryz.func237,Tryz.ntmps237
       go_wp2_with (first|(go_at_call 305;refine(hsg _ hD).mono ?_;rintro e w1 ⟨rfl,hb1⟩)|(go_at_call 258;refine(ht _ _).mono ?_;rintro e w2 ⟨rfl,hb2⟩))
       go_ret
       exact⟨rfl,hb1.trans ((Zf hb2).mono hb1.size)⟩
     · have ht:=fun c w=>Zp3 p (by simpa using hsc) c w;rw [if_neg (fun h=>hsc h.2)];go_enter Tryz.func237,Tryz.ntmps237
       go_wp2_with (first|(go_at_call 305;refine(hsg _ hD).mono ?_;rintro e w1 ⟨rfl,hb1⟩)|(go_at_call 258;refine(ht _ _).mono ?_;rintro e w2 ⟨rfl,rfl⟩))
       go_ret
       exact⟨rfl,hb1.alloc (by have:=hb1.size;omega) _⟩
 · by_cases h5:c=5
   · subst h5;have hs:sg2 5 a b=if ZZ ((a.toNat*256+b.toNat:Nat):Int)=0 then [] else [ZZ ((a.toNat*256+b.toNat:Nat):Int)]:=by unfold sg2;rw [if_neg (by decide),if_pos rfl]
     have hsg:=fun w=>Zor a b w;have hsc:=Zlr ((a.toNat*256+b.toNat:Nat):Int);rw [hs];generalize ZZ ((a.toNat*256+b.toNat:Nat):Int)=p at*;clear hs;by_cases h0:p=0
     · subst h0;go_enter Tryz.func237,Tryz.ntmps237
       go_wp2_with (go_at_call 306;refine(hsg _).mono ?_;rintro e w1 ⟨rfl,hb1⟩)
       go_ret
       exact⟨rfl,hb1⟩
     · have e2:decide (p≠0)=true:=by simpa using h0
       rw [e2] at hsg;have ht:=fun c w=>ZgM p (hsc h0) c w;rw [if_neg h0,Zns];clear hsc e2;go_enter Tryz.func237,Tryz.ntmps237
       go_wp2_with (first|(go_at_call 306;refine(hsg _).mono ?_;rintro e w1 ⟨rfl,hb1⟩)|(go_at_call 258;refine(ht _ _).mono ?_;rintro e w2 ⟨rfl,hb2⟩))
       go_ret
       exact⟨rfl,hb1.trans ((Zf hb2).mono hb1.size)⟩
   · obtain rfl:c=6:=by omega
     have hs:sg2 6 a b=Z5 a.toNat b.toNat:=by unfold sg2;rw [if_neg (by decide),if_neg (by decide)]
     have hsg:=fun w=>ZnT a b w;rw [hs];clear hs;go_enter Tryz.func237,Tryz.ntmps237
     go_wp2_with (go_at_call 307;refine(hsg _).mono ?_;rintro e w1 ⟨z,rfl,hb1⟩)
     go_ret
     exact⟨rfl,hb1⟩
theorem Zt6 (l:List UInt8):Lib.strCells (B l)=l.map u8V:=by
 simp [Lib.strCells,B,u8V]
theorem MpT.same {w w':World} {b n:Nat} {M:UInt8→UInt8→Option (List UInt8)} (h:MpT w b n M)(e:w'.heap[b]? =w.heap[b]?):MpT w' b n M:=by
 obtain⟨D,⟨es,cl,h1,h2⟩,h3⟩:=h;exact⟨D,⟨es,cl,e.trans h1,h2⟩,h3⟩
section
variable {ops:Array Oper} {rest:List Oper} {o:Oper} {a:Act} {Q:Exit→Act→World→Prop}
theorem mt_no {w:World} {b n:Nat} {M:UInt8→UInt8→Option (List UInt8)} (hg:o.guard=none)(m x:Operand)(hop:o.op=Op.lookup 274 m x true)(h:MpT w b n M)(hm:a.eval m= .map (some b))(p q:UInt8)(hx:a.eval x= .agg #[.int .u8 p.toNat,.int .u8 q.toNat])(hk:M p q=none)
 (hK:∀t:List UInt8,wpList Tryz.prog ops Q rest (a.put o.dst (.tuple #[.agg #[.string (B t)],.bool false])) w):
 wpList Tryz.prog ops Q (o::rest) a w:=
 ZlL hg m x hop h hm p q hx fun t _=>by rw [hk];exact hK t
theorem ZlN {w:World} {b n:Nat} {M:UInt8→UInt8→Option (List UInt8)} (hg:o.guard=none)(m x:Operand)(hop:o.op=Op.lookup 274 m x true)(h:MpT w b n M)(hm:a.eval m= .map (some b))(p q:UInt8)(hx:a.eval x= .agg #[.int .u8 p.toNat,.int .u8 q.toNat]){t:List UInt8} (hk:M p q=some t)
 (hK:wpList Tryz.prog ops Q rest (a.put o.dst (.tuple #[.agg #[.string (B t)],.bool true])) w):
 wpList Tryz.prog ops Q (o::rest) a w:=
 ZlL hg m x hop h hm p q hx fun s hs=>by rw [hs t hk,hk];exact hK
theorem Zsu {w:World} {b n:Nat} {M:UInt8→UInt8→Option (List UInt8)} (hg:o.guard=none)(m x:Operand)(hop:o.op=Op.lookup 274 m x true)(h:MpT w b n M)(hm:a.eval m= .map (some b))(p q:UInt8)(hx:a.eval x= .agg #[.int .u8 p.toNat,.int .u8 q.toNat])(hk:M p q=some [])
 (hK:wpList Tryz.prog ops Q rest (a.put o.dst (.tuple #[.agg #[.string ⟨#[]⟩],.bool true])) w):
 wpList Tryz.prog ops Q (o::rest) a w:=ZlN hg m x hop h hm p q hx hk hK
theorem Zj4 (hgd:o.guard=none)(s x:Operand)(ho:o.op= .call {callee:= .builtin .append,args:=#[s,x],argTypes:=#[79,9]}) (base:Nat) (v:Value) (l:List UInt8) (hs:a.eval s=v) (W:World) (y:List UInt8)
 (hown:W.ownsRow base 5 1 v l.length (l.map u8V)) (hbase:base≤W.heap.size) (hlen:l.length≤35184372080000) (hy:y.length≤1000000) (hx:a.eval x= .string (B y))
 (h:∀v' w',Hid (w'.ownsRow base 5 1 v' (l++y).length ((l++y).map u8V))→Below base W w'→wpList Tryz.prog ops Q rest (a.put o.dst v') w'):
 wpList Tryz.prog ops Q (o::rest) a W:=by
 obtain⟨i0,hi,iz0,iz1,iz2⟩:=info_parts ZiH;have hsz:=Zy y;refine Lib.wpList_append_own_string W hgd s x 79 9 ho base 5 i0 Tryz.underlying79 Tryz.underlying9 hi iz0 iz1 iz2 v l.length _ hs hown (B y) hx (by unfold maxLen;omega) (by omega) hbase ?_;intro v' w' h1 h2 _;refine h v' w' (Lib.hid ?_) (Z3 (Below.refl _ W) hown h2 hbase (Nat.le_refl _));rw [List.length_append,List.map_append,←hsz,←Zt6];exact h1
end
theorem ZbL {w:World} {K:Nat} {a b:Value} {T:TypeId} (h:w.heap[K]? =some (.cells #[a,b] T (0,0))):w.cell? ⟨K,0,none⟩=some a∧w.cell? ⟨K,1,none⟩=some b∧w.frozen? ⟨K,0,none⟩=false∧w.frozen? ⟨K,1,none⟩=false:=
 ⟨by rw [cell_of_row _ K 0 _ _ _ h];rfl,by rw [cell_of_row _ K 1 _ _ _ h];rfl,frozen_of_row _ K 0 _ _ h,frozen_of_row _ K 1 _ _ h⟩
def D2Rel (f:UInt8→UInt8→List Int)(l:List UInt8)(w0 W2:World)(v i:Value)(wr:World):Prop:=
 ∃(k n:Nat) (out:List Int) (M:UInt8→UInt8→Option (List UInt8)),k≤l.length∧i= .int .i64 k∧n≤k∧Zk f l 0=Zam out (Zk f (l.drop k) k)∧(Zb out).length≤4*k∧
  Hid (wr.ownsRow (w0.heap.size+2) 5 1 v (Zb out).length ((Zb out).map u8V))∧MpT wr (w0.heap.size+1) n M∧Hid (∀x y t,M x y=some t→t=Zb (f x y))∧But (w0.heap.size+1) (w0.heap.size+2) W2 wr
theorem But.grownK {C:Nat} {w w':World} (hg:w.grownBy w' (some C)):But C w.heap.size w w':=
 ⟨hg.os,hg.tape,hg.output,hg.size,fun k hk hc=>hg.block k hk (by simpa using hc)⟩
theorem Zdh {l:List UInt8} (h:l≠[]):(B l).toList.isEmpty=false:=by
 have e:(B l).toList=l:=by rw [ByteArray.toList_eq,ZQ]
 rw [e];cases l with
 |nil=>exact absurd rfl h
 |cons a l=>rfl
theorem Zg7 (wr w1:World)(two:Array Value)(t0:Value)(T1 T2:TypeId)(hb1:Below ((wr.alloc (.cells two T1)).drew.alloc (.cells #[t0] T2)).heap.size ((wr.alloc (.cells two T1)).drew.alloc (.cells #[t0] T2)) w1):
 Below wr.heap.size wr w1∧w1.heap[wr.heap.size+1]? =some (.cells #[t0] T2 (0,0)):=by
 have hz:((wr.alloc (.cells two T1)).drew).heap.size=wr.heap.size+1:=by simp [World.drew]
 have e:=heap_alloc_new (wr.alloc (.cells two T1)).drew (.cells #[t0] T2);rw [hz] at e;refine⟨?_,?_⟩
 · exact((((Below.refl _ wr).alloc (Nat.le_refl _) _).trans (Below.refl _ _).drew).alloc (by rw [hz];omega) _).trans (hb1.mono (by simp [World.drew];omega))
 · rw [hb1.block _ (by simp [World.drew]),e]
theorem Zks (wr:World)(two:Array Value)(t0:Value)(T1 T2:TypeId):Below wr.heap.size wr ((wr.alloc (.cells two T1)).alloc (.cells #[t0] T2)).drew:=
 (((Below.refl _ wr).alloc (Nat.le_refl _) _).alloc (by simp) _).drew
theorem Zkr {K:Nat} (wr w1 w4:World)(two:Array Value)(t0 ts:Value)(T1 T2:TypeId)(hK:K<wr.heap.size)(hb1:Below ((wr.alloc (.cells two T1)).drew.alloc (.cells #[t0] T2)).heap.size ((wr.alloc (.cells two T1)).drew.alloc (.cells #[t0] T2)) w1)
 (hg:(w1.setCell ⟨wr.heap.size+1,0,none⟩ ts).grownBy w4 (some K)):w4.cell? ⟨wr.heap.size+1,0,none⟩=some ts∧But K wr.heap.size wr w4:=by
 obtain⟨h1,h2⟩:=Zg7 wr w1 two t0 T1 T2 hb1;have h3:=heap_setCell_same w1 (wr.heap.size+1) 0 _ _ ts h2;have hz:wr.heap.size+1<w1.heap.size:=(Array.getElem?_eq_some_iff.1 h2).1;refine⟨?_,?_⟩
 · have h4:=hg.block (wr.heap.size+1) (by simpa [World.setCell] using hz) (by simp;omega);rw [h3] at h4;rw [cell_of_row _ _ 0 _ _ _ h4];rfl
 · exact((But.of h1).setCell (.inl (by show wr.heap.size≤wr.heap.size+1;omega)) ts).trans ((But.grownK hg).mono (by simp [World.setCell];omega))
def D2V:ZaO→Value
 | .inl ps=> .tuple #[.string (B (Zb ps)),.agg #[.int .i64 0,.int .i64 0]]
 | .inr n=> .tuple #[.string ⟨#[]⟩,.agg #[.int .i64 2,.int .i64 n]]
def Zaq (r:ZaO)(w0:World)(e:Ending)(w':World):Prop:=e= .returned (D2V r)∧Below w0.heap.size w0 w'
theorem Zjj (c:Nat)(f:UInt8→UInt8→List Int)(hlen2:∀a b,(Zb (f a b)).length≤8)(l:List UInt8)(hl:l.length≤100000)(w:World)(hG:Grd w)
 (hS:∀(k:Nat) (a b:UInt8),l[k]? =some a→l[k+1]? =some b→128≤a.toNat→∀wx,Below w.heap.size w wx→Calls Tryz.prog 237 #[.int .i64 c,.int .u8 a.toNat,.int .u8 b.toNat] wx fun e w'=>e= .returned (.string (B (Zb (f a b))))∧Below wx.heap.size wx w'):
 Calls Tryz.prog 157 #[.int .i64 c,.string (B l)] w (Zaq (Zk f l 0) w):=by
 have hsz:=Zy l;have HP:Hid (∀r w',Zk f l 0=r→Below w.heap.size w w'→Zaq (Zk f l 0) w (.returned (D2V r)) w'):=Lib.hid fun r w' h1 h2=>by rw [h1];exact⟨rfl,h2⟩
 generalize Zaq (Zk f l 0) w=P at*;obtain⟨i0,hi,iz0,iz1,iz2⟩:=info_parts ZiH;have hmm:=@run_makeMap Tryz.prog;obtain⟨W2,hW2⟩:∃W2,W2=(w.alloc (.cells #[.int .i64 0,.int .i64 0] 33)).alloc (.map #[] 0):=⟨_,rfl⟩
 have hz2:W2.heap.size=w.heap.size+1+1:=by rw [hW2];simp
 have HW2:=Lib.hid hW2;go_enter Tryz.func157,Tryz.ntmps157
 go_wp2_with fail
 rw [←HW2.out];go_loopw [7,8] (fun v i wr=>D2Rel f l w W2 v i wr) (fun _ i _=>l.length - (intOf i).toNat)
 case atStart=>
  refine⟨0,0,[],fun _ _=>none,Nat.zero_le _,rfl,Nat.le_refl _,?_,by simp [ZbE],Lib.hid ⟨by simp [ZbE],.inl ⟨rfl,rfl⟩⟩,?_,Lib.hid (fun _ _ _ h=>by cases h),But.refl _ _ _⟩
  · rw [List.drop_zero];exact(Zku _).symm
  · rw [HW2.out];have:=MpT.made (w.alloc (.cells #[.int .i64 0,.int .i64 0] 33));rw [World.size_alloc] at this;exact this
 case round=>
  obtain⟨k,n,out,M,hk,rfl,hn,he,hol,hown,hM,hMf,hb⟩:=hrel;have hz:=hb.size;have hbw:Below w.heap.size w wr:=by
   have h2:Below w.heap.size w W2:=by rw [HW2.out];exact((Below.refl _ _).alloc (Nat.le_refl _) _).alloc (by simp) _
   exact h2.trans ((hb.mono (by omega)).below (by omega))
  have hG0:Grd wr:=hG.below hbw;have hwr1:w.heap.size<wr.heap.size:=by omega
  have hwr2:w.heap.size+1<wr.heap.size:=by omega
  by_cases hlt:k<l.length
  · have hg:=getB l k hlt;by_cases hlow:l[k].toNat<128
    · have hst:=ZqY f l k hlt hlow;have he2:Zk f l 0=Zam (out++[(l[k].toNat:Int)]) (Zk f (l.drop (k+1)) (k+1)):=by rw [he,hst,Zg9]
      have He2:=Lib.hid he2;have ee:Hid (Zb (out++[(l[k].toNat:Int)])=Zb out++[l[k]]):=Lib.hid (by rw [ZeR,ZbY (by omega) (by omega)];congr 2;simp);clear he he2 hst;go_wp2_with (at_builtin;refine app_u8 rfl _ _ rfl (w.heap.size+2) u7 (Zb out) rfl wr (l[k]) _ rfl hown.out (by omega) (by omega) rfl ?_;intro v6 w6 HO6 hb6;have HB6:=Lib.hid hb6;clear hb6)
      go_roundw
      case rel=>
       refine⟨k+1,n,_,M,by omega,by go_num,by omega,He2.out,by rw [ee.out,List.length_append,List.length_singleton];omega,Lib.hid (by rw [ee.out];exact HO6.out),hM.same (HB6.out.block _ (by omega)),hMf,hb.trans (But.of HB6.out)⟩
      case measure=>simp [intOf];omega
    · have hh:128≤(l[k].toNat:Int):=by omega
      by_cases hsh:l.length=k+1
      · have hr:=Zq0 f l k hlt hlow hsh;have he2:Zk f l 0= .inr k:=by rw [he,hr];rfl
        have He2:=Lib.hid he2;have hF:=hb.block w.heap.size (by omega) (by omega);rw [HW2.out,Below.heap_alloc _ _ _ (by simp),heap_alloc_new] at hF;obtain⟨q0,q1,q2,q3⟩:=ZbL hF;clear he he2 hr hF hown hM hMf hol;go_wp2_with fail
        refine bodyPost_ret (v:= .tuple #[.string ⟨#[]⟩,.agg #[.int .i64 2,.int .i64 k]]) (by simp [results,Tryz.results157,go_sem,q0,q1]) rfl ?_;exact HP.out (.inr k) _ He2.out ((hbw.setCell (Nat.le_refl _) _).setCell (Nat.le_refl _) _)
      · have hk1:k+1<l.length:=by omega
        have hg1:=getB l (k+1) hk1;have hgk:((k:Int)+1).toNat=k+1:=by omega
        have hF:=hb.block w.heap.size (by omega) (by omega);rw [HW2.out,Below.heap_alloc _ _ _ (by simp),heap_alloc_new] at hF;have hkn:¬(l.length:Int) - k<2:=by omega
        have hfe:=hS k (l[k]) (l[k+1]) (List.getElem?_eq_getElem hlt) (List.getElem?_eq_getElem hk1) (by omega);have Hbw:=Lib.hid hbw;have hl8:=hlen2 (l[k]) (l[k+1]);by_cases hf0:f l[k] l[k+1]=[]
        · have hr:=ZqZ f l k hk1 hlow hf0;have he2:Zk f l 0= .inr k:=by rw [he,hr];rfl
          have He2:=Lib.hid he2;clear he he2 hr;generalize hx0:l[k]=x at*;generalize hy0:l[k+1]=y at*;have hts:Zb (f x y)=[]:=by rw [hf0];rfl
          have hM1:=((hM.below ((Below.refl _ wr).alloc (Nat.le_refl _) (.cells #[.int .u8 x.toNat,.int .u8 y.toNat] 275))).below ((Below.refl _ _).drew))
          have HF:=Lib.hid hF;rw [hts,show B []=⟨#[]⟩ from rfl] at hfe;clear hS hlen2 hf0 hl8;cases hMx:M x y with
          |none=>
           have hMx':=hMx;clear hMx hMf hown;go_wp2_with fail
           go_region
           go_wp2_with (first
            |(at_lookup;refine mt_no rfl _ _ rfl hM1 rfl x y rfl hMx' ?_;intro t0)
            |(go_at_call 237;refine(hfe _ (((Hbw.out.alloc Hbw.out.size _).drew).alloc (by have:=Hbw.out.size;simp [World.drew];omega) _)).mono ?_;rintro e w1 ⟨rfl,hb1⟩;obtain⟨hc1,hf1⟩:=bcell hb1;have HX1:=Lib.hid hb1;have hM3:=(hM.below (Zg7 _ _ _ _ _ _ hb1).1).same (Zio (w:=w1) (k:=wr.heap.size+1) (j:=0) (g:=w.heap.size+1) (by omega) (.string ⟨#[]⟩)))
            |(at_mapUpdate;refine ZlM rfl _ _ _ rfl hM3 rfl x y rfl [] rfl (by omega) ?_;intro w4 hM4 hg4;obtain⟨q4,hbt4⟩:=Zkr _ _ _ _ _ _ _ _ (by omega) HX1.out hg4;have hF4:=ZbL ((hbt4.block w.heap.size (by omega) (by omega)).trans hF);obtain⟨p0,p1,p2,p3⟩:=hF4;have HT4:=Lib.hid hbt4;have HM4:=Lib.hid hM4;clear hbt4 hM4 hg4))
           refine bodyPost_ret (v:= .tuple #[.string ⟨#[]⟩,.agg #[.int .i64 2,.int .i64 k]]) (by simp [results,Tryz.results157,go_sem,p0,p1]) rfl ?_;exact HP.out (.inr k) _ He2.out ((((hbw.trans ((HT4.out.mono hbw.size).below (by omega))).setCell (Nat.le_refl _) _).setCell (Nat.le_refl _) _))
          |some tt=>
           have htt:tt=[]:=by rw [hMf.out x y tt hMx,hts]
           subst htt;have hMx':=hMx;clear hMx hMf hown hfe;have qF:=ZbL hF;obtain⟨p0,p1,p2,p3⟩:=qF;go_wp2_with fail
           go_region
           go_wp2_with (first
            |(at_lookup;refine Zsu rfl _ _ rfl hM1 rfl x y rfl hMx' ?_))
           refine bodyPost_ret (v:= .tuple #[.string ⟨#[]⟩,.agg #[.int .i64 2,.int .i64 k]]) (by simp [results,Tryz.results157,go_sem,p0,p1,hwr1]) rfl ?_;exact HP.out (.inr k) _ He2.out (((((hbw.setCell (Nat.le_refl _) _).setCell (Nat.le_refl _) _).alloc (by simp [World.setCell];omega) _).alloc (by simp [World.setCell];omega) _).drew)
        · have hr:=Zq1 f l k hk1 hlow hf0;have he2:Zk f l 0=Zam (out++f l[k] l[k+1]) (Zk f (l.drop (k+2)) (k+2)):=by rw [he,hr,Zg9]
          have hto:Zb (out++f l[k] l[k+1])=Zb out++Zb (f l[k] l[k+1]):=ZcK _ _;have htn:Zb (f l[k] l[k+1])≠[]:=by
           intro h;cases hq:f l[k] l[k+1] with
           |nil=>exact hf0 hq
           |cons p ps=>rw [hq,ZaG] at h;exact Zhh p (List.append_eq_nil_iff.1 h).1
          clear he hr hS hlen2;generalize hx0:l[k]=x at*;generalize hy0:l[k+1]=y at*;have Hts:=Lib.hid (show Zb (f x y)=Zb (f x y) from rfl);have hMf2:∀tt,M x y=some tt→tt=Zb (f x y):=fun tt h=>hMf.out x y tt h;generalize hgt:Zb (f x y)=ts at*;have Hgt:=Lib.hid hgt;have He2:=Lib.hid he2;have Hto:=Lib.hid hto;have hts1:(B ts).toList.isEmpty=false:=Zdh htn;clear hgt he2 hto Hts hf0;have hM1:=((hM.below ((Below.refl _ wr).alloc (Nat.le_refl _) (.cells #[.int .u8 x.toNat,.int .u8 y.toNat] 275))).below ((Below.refl _ _).drew))
          cases hMx:M x y with
          |none=>
           have hMx':=hMx;clear hMx hMf2;go_wp2_with fail
           go_region
           go_wp2_with (first
            |(at_lookup;refine mt_no rfl _ _ rfl hM1 rfl x y rfl hMx' ?_;intro t0)
            |(go_at_call 237;refine(hfe _ (((Hbw.out.alloc Hbw.out.size _).drew).alloc (by have:=Hbw.out.size;simp [World.drew];omega) _)).mono ?_;rintro e w1 ⟨rfl,hb1⟩;obtain⟨hc1,hf1⟩:=bcell hb1;have HX1:=Lib.hid hb1;have hM3:=(hM.below (Zg7 _ _ _ _ _ _ hb1).1).same (Zio (w:=w1) (k:=wr.heap.size+1) (j:=0) (g:=w.heap.size+1) (by omega) (.string (B ts))))
            |(at_mapUpdate;refine ZlM rfl _ _ _ rfl hM3 rfl x y rfl ts rfl (by omega) ?_;intro w4 hM4 hg4;obtain⟨q4,hbt4⟩:=Zkr _ _ _ _ _ _ _ _ (by omega) HX1.out hg4;have HT4:=Lib.hid hbt4;have HM4:=Lib.hid hM4;have hz4:=hbt4.size;clear hbt4 hM4 hg4)
            |(at_builtin;refine Zj4 rfl _ _ rfl (w.heap.size+2) u7 (Zb out) rfl w4 ts (ZsW hown.out HT4.out (by omega)) (by omega) (by omega) (by omega) rfl ?_;intro v6 w6 HO6 hb6;have HB6:=Lib.hid hb6;clear hb6))
           go_roundw
           case rel=>
            refine⟨k+2,n+1,_,_,by omega,by go_num,by omega,He2.out,by rw [Hto.out,List.length_append];omega,Lib.hid (by rw [Hto.out];exact HO6.out),HM4.out.same (HB6.out.block _ (by omega)),Lib.hid ?_,hb.trans ((HT4.out.mono (by omega)).trans (But.of HB6.out))⟩;intro a b t h;by_cases e:a=x∧b=y
            · simp only [e,and_self,if_true,Option.some.injEq] at h;rw [←h,e.1,e.2];exact Hgt.out.symm
            · simp only [e,if_false] at h;exact hMf.out a b t h
           case measure=>simp [intOf];omega
          |some tt=>
           obtain rfl:=hMf2 tt hMx;have hMx':=hMx;clear hMx hMf2 hfe;go_wp2_with fail
           go_region
           go_wp2_with (first
            |(at_lookup;refine ZlN rfl _ _ rfl hM1 rfl x y rfl hMx' ?_)
            |(at_builtin;refine Zj4 rfl _ _ rfl (w.heap.size+2) u7 (Zb out) rfl _ tt (Zt hown.out (Zks _ _ _ _ _)) (by simp [World.drew];omega) (by omega) (by omega) rfl ?_;intro v6 w6 HO6 hb6;have HB6:=Lib.hid hb6;clear hb6))
           go_roundw
           case rel=>
            have hbd:=Zks wr #[.int .u8 x.toNat,.int .u8 y.toNat] (.string (B tt)) 275 277;refine⟨k+2,n,_,_,by omega,by go_num,by omega,He2.out,by rw [Hto.out,List.length_append];omega,Lib.hid (by rw [Hto.out];exact HO6.out),(hM.below hbd).same (HB6.out.block _ (by omega)),hMf,hb.trans (But.of ((hbd.mono (by omega)).trans HB6.out))⟩
           case measure=>simp [intOf];omega
  · have hke:k=l.length:=by omega
    subst hke;have hr:=ZqX f l l.length (Nat.le_refl _);have he2:Zk f l 0= .inl out:=by rw [he,hr];simp [Zam]
    have He2:=Lib.hid he2;have hcv:=ZqU wr hown.out;have hF:=hb.block w.heap.size (by omega) (by omega);rw [HW2.out,Below.heap_alloc _ _ _ (by simp),heap_alloc_new] at hF;obtain⟨q0,q1,q2,q3⟩:=ZbL hF;clear he he2 hr hF hown hM hMf hol;go_wp2_with fail
    refine bodyPost_ret (v:= .tuple #[.string (B (Zb out)),.agg #[.int .i64 0,.int .i64 0]]) (by simp [results,Tryz.results157,go_sem,q0,q1]) rfl ?_;exact HP.out (.inl out) _ He2.out ((hbw.setCell (Nat.le_refl _) _).setCell (Nat.le_refl _) _)
theorem ZtP (c:Nat):∀a b,(Zb (sg2 c a b)).length≤8:=fun a b=>by
 have h1:=Zm5 c a b;have h2:=(Zah (sg2 c a b)).2;omega
theorem Zoc (c:Nat)(hc:4≤c∧c≤6)(l:List UInt8)(hl:l.length≤100000)(w:World)(hG:Grd w):
 Calls Tryz.prog 157 #[.int .i64 c,.string (B l)] w (Zaq (Zk (sg2 c) l 0) w):=
 Zjj c (sg2 c) (ZtP c) l hl w hG fun _ a b _ _ _ wx hb=>ZnX c hc a b wx (hG.below hb).db
end Go.Proofs.YtlfinljfghhpdaaGreatDoor
namespace Go.Proofs.YtlfinljfghhpdaaGreatDoor
open Go Go.RowKit
theorem F2 {w w1:World} {T:TypeId} {a b:Value} (hb:Below (w.alloc (.cells #[a,b] T)).heap.size (w.alloc (.cells #[a,b] T)) w1):w1.heap[w.heap.size]? =some (.cells #[a,b] T (0,0)):=by
 rw [hb.block _ (by simp),heap_alloc_new]
theorem Zi9 (c:Nat)(hc:c≤3)(l:List UInt8)(hl:l.length≤100000)(w:World)(hG:Grd w):
 Calls Tryz.prog 84 #[.int .i64 c,.string (B l)] w fun e w'=>e= .returned (.tuple #[.string (B (Zb (l.map fun x=>ZJ c x.toNat))),.agg #[.int .i64 0,.int .i64 0]])∧Below w.heap.size w w':=by
 have hof:=fun w hT=>ZpA c hc w hT;have hde:=fun{A} {cp} {q} {rs} hL hn w h hT=>Zjk hc (A:=A) (cp:=cp) (q:=q) (rs:=rs) (B l) hL (by rw [Zy];exact hl) hn w h hT;rw [show tB ((B l).data.toList.map fun x=>ZJ c x.toNat)=B (Zb (l.map fun x=>ZJ c x.toNat)) by rw [ZQ];rfl] at hde;generalize B (Zb (l.map fun x=>ZJ c x.toNat))=R at*;have hT:=hG.tabs;unfold ZaY at hof;rcases(show c=0∨c=1∨c=2∨c=3 by omega) with rfl|rfl|rfl|rfl
 all_goals
  go_enter Tryz.func84,Tryz.ntmps84
  go_wp2_with (first
   |(go_at_call 155;refine(hof _ (ZN hT _)).mono ?_;rintro e w1 ⟨A,cp,rs,rfl,h1,h2,h3,h4,hb1⟩;have T1:=Zaz (ZN hT _) hb1 (Nat.le_refl _);have HF:=Lib.hid (F2 hb1);have HB:=Lib.hid (Zf hb1);have H4:=Lib.hid h4;clear hb1 h4)
   |(go_at_call 156;refine(hde H4.out h2 _ ((h3.below ((Below.refl _ _).alloc (Nat.le_refl _) _)).more (by simp)) (ZN T1 _)).mono ?_;rintro e w2 ⟨rfl,hb2⟩;have hF2:=(Zf hb2).block w.heap.size (Array.getElem?_eq_some_iff.1 HF.out).1;rw [HF.out] at hF2;have hB2:=HB.out.trans ((Zf hb2).mono HB.out.size);obtain⟨q0,q1,q2,q3⟩:=ZbL hF2;have HF2:=Lib.hid hF2;have HB2:=Lib.hid hB2;clear hb2 hF2 hB2))
  refine bodyPost_ret (v:= .tuple #[.string R,.agg #[.int .i64 0,.int .i64 0]]) (by simp [results,Tryz.results84,go_sem,q0,q1]) rfl ⟨rfl,?_⟩;exact(HB2.out.setCell (Nat.le_refl _) _).setCell (Nat.le_refl _) _
theorem Zjg (r:ZaO):∃s e a,D2V r= .tuple #[.string s,.agg #[.int .i64 e,.int .i64 a]]:=by
 cases r with
 |inl ps=>exact⟨_,_,_,rfl⟩
 |inr n=>exact⟨_,_,_,rfl⟩
theorem Zja (c:Nat)(hc:4≤c∧c≤6)(l:List UInt8)(w:World)(hG:Grd w)(r:ZaO)
 (hd:∀wx,Below w.heap.size w wx→Calls Tryz.prog 157 #[.int .i64 c,.string (B l)] wx (Zaq r wx)):
 Calls Tryz.prog 84 #[.int .i64 c,.string (B l)] w (Zaq r w):=by
 unfold Zaq at hd⊢;obtain⟨s,x,a,hr⟩:=Zjg r;rw [hr] at hd⊢;rcases(show c=4∨c=5∨c=6 by omega) with rfl|rfl|rfl
 all_goals
  go_enter Tryz.func84,Tryz.ntmps84
  go_wp2_with (go_at_call 157;refine(hd _ ((Below.refl _ w).alloc (Nat.le_refl _) _)).mono ?_;rintro e w1 ⟨rfl,hb1⟩;have HF:=Lib.hid (F2 hb1);obtain⟨q0,q1,q2,q3⟩:=ZbL HF.out;have HB:=Lib.hid (Zf hb1);clear hb1)
  refine bodyPost_ret (v:= .tuple #[.string s,.agg #[.int .i64 x,.int .i64 a]]) (by simp [results,Tryz.results84,go_sem,q0,q1]) rfl ⟨rfl,?_⟩;exact(HB.out.setCell (Nat.le_refl _) _).setCell (Nat.le_refl _) _
theorem ZnU (c:Nat)(hc:4≤c∧c≤6)(l:List UInt8)(hl:l.length≤100000)(w:World)(hG:Grd w):
 Calls Tryz.prog 84 #[.int .i64 c,.string (B l)] w (Zaq (Zk (sg2 c) l 0) w):=
 Zja c hc l w hG _ fun wx hb=>Zoc c hc l hl wx (hG.below hb)
theorem Zjb (big:Bool)(l:List UInt8)(hl:l.length≤100000)(w:World):
 Calls Tryz.prog 84 #[.int .i64 (if big then 9 else 8),.string (B l)] w (Zaq (Zco big l) w):=by
 have hd:∀w,Calls Tryz.prog 116 #[.string (B l),.bool big] w (Zaq (Zco big l) w):=by
  intro w;rcases ZiI big l with⟨ps,h,e⟩|⟨n,h,e⟩
  · rw [e];exact(Zqg big (B l) ps h (by rw [Zy];omega) w).mono fun e w' h=>⟨h.1,h.2⟩
  · rw [e];exact(Zqf big (B l) n h (by rw [Zy];omega) w).mono fun e w' h=>⟨h.1,h.2⟩
 unfold Zaq at hd⊢;generalize Zco big l=r at*;obtain⟨s,x,a,hr⟩:=Zjg r;rw [hr] at hd⊢;cases big
 all_goals
  go_enter Tryz.func84,Tryz.ntmps84
  go_wp2_with (go_at_call 116;refine(hd _).mono ?_;rintro e w1 ⟨rfl,hb1⟩;have HF:=Lib.hid (F2 hb1);obtain⟨q0,q1,q2,q3⟩:=ZbL HF.out;have HB:=Lib.hid (Zf hb1);clear hb1)
  refine bodyPost_ret (v:= .tuple #[.string s,.agg #[.int .i64 x,.int .i64 a]]) (by simp [results,Tryz.results84,go_sem,q0,q1]) rfl ⟨rfl,?_⟩;exact(HB.out.setCell (Nat.le_refl _) _).setCell (Nat.le_refl _) _
theorem ZiN {l:List UInt8} {ps:List Int} (h:Good ⟨l.toArray⟩ ps):Zb ps=l:=by
 have:=h.1;simpa using this.symm
theorem ZnV (l:List UInt8)(hl:l.length≤100000)(w:World)(hG:Grd w):
 Calls Tryz.prog 84 #[.int .i64 7,.string (B l)] w (Zaq (ZcL l) w):=by
 have hT:=hG.tabs;rcases Zc9 l with⟨ps,h,e⟩|⟨n,h,e⟩
 · rw [e];unfold Zaq D2V;simp only;rw [ZiN h];have hck:=fun w hT=>Zjd (B l) ps h (by rw [Zy];omega) w hT;have hbd:=fun w=>Zdc 0 0 rfl w;clear h e;go_enter Tryz.func84,Tryz.ntmps84
   go_wp2_with (first
    |(go_at_call 158;refine(hck _ (ZN hT _)).mono ?_;rintro e w1 ⟨rfl,hb1⟩;have HF:=Lib.hid (F2 hb1);have HB:=Lib.hid (Zf hb1);clear hb1)
    |(go_at_call 10;refine(hbd _).mono ?_;rintro e w2 ⟨rfl,hb2⟩;have hF2:=(Zf hb2).block w.heap.size (Array.getElem?_eq_some_iff.1 HF.out).1;rw [HF.out] at hF2;have hB2:=HB.out.trans ((Zf hb2).mono HB.out.size);obtain⟨q0,q1,q2,q3⟩:=ZbL hF2;have HB2:=Lib.hid hB2;clear hb2 hF2 hB2))
   refine bodyPost_ret (v:= .tuple #[.string (B l),.agg #[.int .i64 0,.int .i64 0]]) (by simp [results,Tryz.results84,go_sem,q0,q1]) rfl ⟨rfl,?_⟩;exact(HB2.out.setCell (Nat.le_refl _) _).setCell (Nat.le_refl _) _
 · rw [e];unfold Zaq D2V;simp only;have hck:=fun w hT=>ZnZ (B l) n h (by rw [Zy];omega) w hT;have hbd:=fun w=>Zjn 2 n (by decide) w;clear h e;go_enter Tryz.func84,Tryz.ntmps84
   go_wp2_with (first
    |(go_at_call 158;refine(hck _ (ZN hT _)).mono ?_;rintro e w1 ⟨rfl,hb1⟩;have HF:=Lib.hid (F2 hb1);have HB:=Lib.hid (Zf hb1);clear hb1)
    |(go_at_call 10;refine(hbd _).mono ?_;rintro e w2 ⟨rfl,hb2⟩;have hF2:=(Zf hb2).block w.heap.size (Array.getElem?_eq_some_iff.1 HF.out).1;rw [HF.out] at hF2;have hB2:=HB.out.trans ((Zf hb2).mono HB.out.size);obtain⟨q0,q1,q2,q3⟩:=ZbL hF2;have HB2:=Lib.hid hB2;obtain⟨b0,b1,f0,f1⟩:=ZbL (F2 hb2);clear hb2 hF2 hB2))
   go_region
   go_wp2_with fail
   refine bodyPost_ret (v:= .tuple #[.string ⟨#[]⟩,.agg #[.int .i64 2,.int .i64 n]]) (by simp [results,Tryz.results84,go_sem,q0,q1]) rfl ⟨rfl,?_⟩;exact((HB2.out.setCell (Nat.le_refl _) _).setCell (Nat.le_refl _) _).drew
theorem Zgr (c:Nat)(hc:c≤9)(l:List UInt8)(hl:l.length≤100000)(w:World)(hG:Grd w):
 Calls Tryz.prog 84 #[.int .i64 c,.string (B l)] w (Zaq (Zbb c l) w):=by
 unfold Zbb;by_cases h3:c≤3
 · rw [if_pos h3];exact Zi9 c h3 l hl w hG
 rw [if_neg h3];by_cases h6:c≤6
 · rw [if_pos h6];exact ZnU c (by omega) l hl w hG
 rw [if_neg h6];by_cases h7:c=7
 · subst h7;rw [if_pos rfl];exact ZnV l hl w hG
 rw [if_neg h7];rcases(show c=8∨c=9 by omega) with rfl|rfl
 · exact Zjb false l hl w
 · exact Zjb true l hl w
theorem ZtS {c:Nat} (hc:c≤3)(x:UInt8):Ze (ZJ c x.toNat)=true:=Zm8 hc x.toNat_lt
theorem Zq3 {c:Nat} (l:List UInt8)(ps:List Int)(h:Zbb c l= .inl ps):∀p∈ps,Ze p=true:=by
 unfold Zbb at h;split at h
 · rename_i hc
   injection h with h;subst h
   intro p hp;obtain⟨x,_,rfl⟩:=List.mem_map.1 hp;exact ZtS hc x
 · split at h
   · exact Zhb _ (ZtQ c) l 0 ps h
   · split at h
     · rcases Zc9 l with⟨qs,hq,e⟩|⟨n,hq,e⟩
       · rw [e] at h;injection h with h;subst h;exact hq.2
       · rw [e] at h;cases h
     · rcases ZiI (c==9) l with⟨qs,hq,e⟩|⟨n,hq,e⟩
       · rw [e] at h;injection h with h;subst h;exact hq.2
       · rw [e] at h;cases h
def Zaj (c:UInt8):Bool:=c !=10&&c !=13
def lnT (r:List UInt8):List UInt8:=r.takeWhile Zaj
def Zbz:List UInt8→List UInt8
 |13::10::_=>[13,10]
 |c::_=>[c]
 |[]=>[]
def lnE (r:List UInt8):List UInt8:=Zbz (r.drop (lnT r).length)
theorem Zro:∀r:List UInt8,∃t,r=Zbz r++t
 |[]=>⟨[],rfl⟩
 |[c]=>⟨[],by simp only [Zbz];rfl⟩
 |c::d::l=>by
  by_cases h:c=13∧d=10
  · obtain⟨rfl,rfl⟩:=h;exact⟨l,rfl⟩
  · refine⟨d::l,?_⟩;have:Zbz (c::d::l)=[c]:=by
     unfold Zbz;split
     · rename_i e;simp only [List.cons.injEq] at e;exact absurd ⟨e.1,e.2.1⟩ h
     · rename_i e;simp only [List.cons.injEq] at e;rw [e.1]
     · rename_i e;cases e
    rw [this];rfl
theorem ZiB (p:UInt8→Bool)(r:List UInt8):r=r.takeWhile p++r.drop (r.takeWhile p).length:=by
 conv=>lhs;rw [←List.takeWhile_append_dropWhile (p:=p) (l:=r)]
 congr 1
 have:=List.takeWhile_append_dropWhile (p:=p) (l:=r)
 conv=>rhs;arg 2;rw [←this]
 rw [List.drop_left]
theorem ZhO (r:List UInt8):∃t,r=lnT r++(lnE r++t):=by
 obtain⟨t,ht⟩:=Zro (r.drop (lnT r).length);refine⟨t,?_⟩
 conv=>lhs;rw [ZiB Zaj r]
 show lnT r++r.drop (lnT r).length=_
 rw [show lnE r=Zbz (r.drop (lnT r).length) from rfl,←ht]
theorem Zgf (p:UInt8→Bool):∀(r:List UInt8) (k:Nat) (h:k<r.length),k<(r.takeWhile p).length→p r[k]=true
 |a::r,k,h,hk=>by
  by_cases ha:p a=true
  · rw [List.takeWhile_cons_of_pos ha] at hk;cases k with
    |zero=>exact ha
    |succ k=>exact Zgf p r k (by simpa using h) (by simpa using hk)
  · rw [List.takeWhile_cons_of_neg ha] at hk;simp at hk
theorem ZiA (p:UInt8→Bool):∀(r:List UInt8) (h:(r.takeWhile p).length<r.length),p r[(r.takeWhile p).length]=false
 |[],h=>by simp at h
 |a::r,h=>by
  by_cases ha:p a=true
  · have e:((a::r).takeWhile p).length=(r.takeWhile p).length+1:=by rw [List.takeWhile_cons_of_pos ha];rfl
    have:=ZiA p r (by rw [e] at h;simpa using h);simp only [e,List.getElem_cons_succ];exact this
  · have e:((a::r).takeWhile p).length=0:=by rw [List.takeWhile_cons_of_neg ha];rfl
    simp only [e,List.getElem_cons_zero];simpa using ha
theorem tw_le (p:UInt8→Bool)(r:List UInt8):(r.takeWhile p).length≤r.length:=by
 have:=congrArg List.length (ZiB p r);rw [List.length_append] at this;omega
theorem Zfq (s:ByteArray)(i k:Nat)(h:k<(s.data.toList.drop i).length)(h2:i+k<s.size):(s.data.toList.drop i)[k]=s[i+k]:=by
 simp only [List.getElem_drop];rfl
theorem Zhl (s:ByteArray)(i n:Nat):s.extract i (i+n)=B ((s.data.toList.drop i).take n):=by
 conv=>lhs;rw [Zcr s,ZeY]
 rw [Nat.add_sub_cancel_left]
theorem Zh0 (s:ByteArray)(i n:Nat)(hi:i≤s.size)(hn:n=(lnT (s.data.toList.drop i)).length):
 i+n≤s.size∧(∀k (_:k<n) (h:i+k<s.size),s[i+k]≠10∧s[i+k]≠13)∧(∀h:i+n<s.size,s[i+n]=10∨s[i+n]=13)∧s.extract i (i+n)=B (lnT (s.data.toList.drop i)):=by
 have hlen:(s.data.toList.drop i).length=s.size - i:=by rw [List.length_drop,ZaR]
 have hle:=tw_le Zaj (s.data.toList.drop i);have hpre:=ZiB Zaj (s.data.toList.drop i);refine⟨by unfold lnT at hn;omega,?_,?_,?_⟩
 · intro k hk h;have:=Zgf Zaj (s.data.toList.drop i) k (by omega) (by unfold lnT at hn;omega);rw [Zfq s i k (by omega) h] at this;simp only [Zaj,Bool.and_eq_true,bne_iff_ne] at this;exact this
 · intro h;have:=ZiA Zaj (s.data.toList.drop i) (by unfold lnT at hn;omega);have e:(s.data.toList.drop i)[((s.data.toList.drop i).takeWhile Zaj).length]'(by unfold lnT at hn;omega)=s[i+n]:=by
    rw [Zfq s i _ (by unfold lnT at hn;omega) (by unfold lnT at hn;omega)];congr 1
    unfold lnT at hn;omega
   rw [e] at this;simp only [Zaj,Bool.and_eq_false_iff,bne_eq_false_iff_eq] at this;exact this
 · rw [Zhl,hn];congr 1
   unfold lnT
   conv=>lhs;arg 2;rw [hpre]
   rw [List.take_left]
theorem Zhi (s:ByteArray)(i n:Nat)(hn:n=(lnT (s.data.toList.drop i)).length):
 (i+n=s.size→lnE (s.data.toList.drop i)=[])∧(∀h:i+n<s.size,s[i+n]=10→lnE (s.data.toList.drop i)=[10])∧
 (∀(h:i+n<s.size) (h2:i+n+1<s.size),s[i+n]=13→s[i+n+1]=10→lnE (s.data.toList.drop i)=[13,10])∧
 (∀(h:i+n<s.size),s[i+n]=13→(∀h2:i+n+1<s.size,s[i+n+1]≠10)→lnE (s.data.toList.drop i)=[13]):=by
 have hE:lnE (s.data.toList.drop i)=Zbz (s.data.toList.drop (i+n)):=by
  unfold lnE;rw [List.drop_drop,←hn]
 rw [hE];refine⟨?_,?_,?_,?_⟩
 · intro e;rw [List.drop_of_length_le (by rw [ZaR];omega)];rfl
 · intro h e;rw [drop_at s _ h,e];rfl
 · intro h h2 e e2;rw [drop_at s _ h,drop_at s _ h2,e,e2];rfl
 · intro h e hno;by_cases h2:i+n+1<s.size
   · have hne:=hno h2;rw [drop_at s _ h,drop_at s _ h2,e];generalize s[i+n+1]=d at*;unfold Zbz;split
     · rename_i e3;simp only [List.cons.injEq] at e3;exact absurd e3.2.1 hne
     · rename_i e3;simp only [List.cons.injEq] at e3;rw [e3.1]
     · rename_i e3;cases e3
   · rw [drop_at s _ h,List.drop_of_length_le (by rw [ZaR];omega),e];rfl
theorem ZlE (s:ByteArray)(i n m:Nat)(hn:n=(lnT (s.data.toList.drop i)).length)(hm:m=(lnE (s.data.toList.drop i)).length):s.extract (i+n) (i+n+m)=B (lnE (s.data.toList.drop i)):=by
 obtain⟨t,ht⟩:=ZhO (s.data.toList.drop i);rw [Zhl,←List.drop_drop];congr 1
 generalize s.data.toList.drop i=r at*;rw [hn,hm];generalize lnE r=e at*;generalize lnT r=x at*;subst ht;rw [List.drop_left,List.take_left]
def NxRel (i n:Nat)(e:Value):Prop:=∃k:Nat,k≤n∧e= .int .i64 ((i+k:Nat):Int)
def Zfa (s:ByteArray)(i:Nat)(w0:World)(e:Ending)(w':World):Prop:=e= .returned (.agg #[.string (B (lnT (s.data.toList.drop i))),.string (B (lnE (s.data.toList.drop i))),.int .i64 i])∧Below w0.heap.size w0 w'
end Go.Proofs.YtlfinljfghhpdaaGreatDoor
