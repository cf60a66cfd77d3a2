/- Lemmas for a statement on the tops; conditions: as each says. -/
import Derived.Lib.AppendStr
import Derived.Lib.ConvBytes
import Derived.Test.YtnbkfkbcpfkddaaGreatDoorM16
import Derived.Test.YtnbkfkbcpfkddaaGreatDoorM26
import Derived.Test.YtnbkfkbcpfkddaaGreatDoorM27
set_option linter.unusedVariables false
set_option linter.unusedSimpArgs false
set_option maxRecDepth 100000
set_option maxHeartbeats 4000000
namespace Go.Proofs.YtnbkfkbcpfkddaaGreatDoor
open Go Go.RowKit Go.Maps
structure Grd (w:World):Prop where
 tabs:Zj w
 db:DB w
 ml:ML w
theorem Grd.below {w w':World} (h:Grd w)(hb:Below w.heap.size w w'):Grd w':=⟨ZU h.tabs hb (Nat.le_refl _),ZlQ h.db hb (Nat.le_refl _),Zl6 h.ml hb (Nat.le_refl _)⟩
theorem Grd.alloc {w:World} (h:Grd w)(o:Obj):Grd (w.alloc o):=h.below ((Below.refl _ _).alloc (Nat.le_refl _) _)
theorem Zqt (l:List UInt8):Lib.strCells (B l)=l.map u8V:=by
 simp [Lib.strCells,B,u8V]
theorem MpT.same {w w':World} {b n:Nat} {M:UInt8→UInt8→Option (List UInt8)} (h:MpT w b n M)(e:w'.heap[b]? =w.heap[b]?):MpT w' b n M:=by
 obtain⟨D,⟨es,cl,h1,h2⟩,h3⟩:=h;exact⟨D,⟨es,cl,e.trans h1,h2⟩,h3⟩
section
variable {ops:Array Oper} {rest:List Oper} {o:Oper} {a:Act} {Q:Exit→Act→World→Prop}
theorem mt_no {w:World} {b n:Nat} {M:UInt8→UInt8→Option (List UInt8)} (hg:o.guard=none)(m x:Operand)(hop:o.op=Op.lookup 265 m x true)(h:MpT w b n M)(hm:a.eval m= .map (some b))(p q:UInt8)(hx:a.eval x= .agg #[.int .u8 p.toNat,.int .u8 q.toNat])(hk:M p q=none)
 (hK:∀t:List UInt8,wpList Tryz.prog ops Q rest (a.put o.dst (.tuple #[.agg #[.string (B t)],.bool false])) w):
 wpList Tryz.prog ops Q (o::rest) a w:=
 ZjS hg m x hop h hm p q hx fun t _=>by rw [hk];exact hK t
theorem ZjU {w:World} {b n:Nat} {M:UInt8→UInt8→Option (List UInt8)} (hg:o.guard=none)(m x:Operand)(hop:o.op=Op.lookup 265 m x true)(h:MpT w b n M)(hm:a.eval m= .map (some b))(p q:UInt8)(hx:a.eval x= .agg #[.int .u8 p.toNat,.int .u8 q.toNat]){t:List UInt8} (hk:M p q=some t)
 (hK:wpList Tryz.prog ops Q rest (a.put o.dst (.tuple #[.agg #[.string (B t)],.bool true])) w):
 wpList Tryz.prog ops Q (o::rest) a w:=
 ZjS hg m x hop h hm p q hx fun s hs=>by rw [hs t hk,hk];exact hK
theorem ZoR {w:World} {b n:Nat} {M:UInt8→UInt8→Option (List UInt8)} (hg:o.guard=none)(m x:Operand)(hop:o.op=Op.lookup 265 m x true)(h:MpT w b n M)(hm:a.eval m= .map (some b))(p q:UInt8)(hx:a.eval x= .agg #[.int .u8 p.toNat,.int .u8 q.toNat])(hk:M p q=some [])
 (hK:wpList Tryz.prog ops Q rest (a.put o.dst (.tuple #[.agg #[.string ⟨#[]⟩],.bool true])) w):
 wpList Tryz.prog ops Q (o::rest) a w:=ZjU hg m x hop h hm p q hx hk hK
theorem Zio (hgd:o.guard=none)(s x:Operand)(ho:o.op= .call {callee:= .builtin .append,args:=#[s,x],argTypes:=#[158,9]}) (base:Nat) (v:Value) (l:List UInt8) (hs:a.eval s=v) (W:World) (y:List UInt8)
 (hown:W.ownsRow base 5 1 v l.length (l.map u8V)) (hbase:base≤W.heap.size) (hlen:l.length≤35184372080000) (hy:y.length≤1000000) (hx:a.eval x= .string (B y))
 (h:∀v' w',Hid (w'.ownsRow base 5 1 v' (l++y).length ((l++y).map u8V))→Below base W w'→wpList Tryz.prog ops Q rest (a.put o.dst v') w'):
 wpList Tryz.prog ops Q (o::rest) a W:=by
 obtain⟨i0,hi,iz0,iz1,iz2⟩:=info_parts Zea;have hsz:=Zm y;refine Lib.wpList_append_own_string W hgd s x 158 9 ho base 5 i0 Tryz.underlying158 Tryz.underlying9 hi iz0 iz1 iz2 v l.length _ hs hown (B y) hx (by unfold maxLen;omega) (by omega) hbase ?_;intro v' w' h1 h2 _;refine h v' w' (Lib.hid ?_) (Z3 (Below.refl _ W) hown h2 hbase (Nat.le_refl _));rw [List.length_append,List.map_append,←hsz,←Zqt];exact h1
end
theorem Zbn {w:World} {K:Nat} {a b:Value} {T:TypeId} (h:w.heap[K]? =some (.cells #[a,b] T (0,0))):w.cell? ⟨K,0,none⟩=some a∧w.cell? ⟨K,1,none⟩=some b∧w.frozen? ⟨K,0,none⟩=false∧w.frozen? ⟨K,1,none⟩=false:=
 ⟨by rw [cell_of_row _ K 0 _ _ _ h];rfl,by rw [cell_of_row _ K 1 _ _ _ h];rfl,frozen_of_row _ K 0 _ _ h,frozen_of_row _ K 1 _ _ h⟩
def D2Rel (f:UInt8→UInt8→List Int)(l:List UInt8)(w0 W2:World)(v i:Value)(wr:World):Prop:=
 ∃(k n:Nat) (out:List Int) (M:UInt8→UInt8→Option (List UInt8)),k≤l.length∧i= .int .i64 k∧n≤k∧ZF f l 0=Zar out (ZF f (l.drop k) k)∧(Zd out).length≤4*k∧
  Hid (wr.ownsRow (w0.heap.size+2) 5 1 v (Zd out).length ((Zd out).map u8V))∧MpT wr (w0.heap.size+1) n M∧Hid (∀x y t,M x y=some t→t=Zd (f x y))∧But (w0.heap.size+1) (w0.heap.size+2) W2 wr
theorem But.grownK {C:Nat} {w w':World} (hg:w.grownBy w' (some C)):But C w.heap.size w w':=
 ⟨hg.os,hg.tape,hg.output,hg.size,fun k hk hc=>hg.block k hk (by simpa using hc)⟩
theorem Znh {l:List UInt8} (h:l≠[]):(B l).toList.isEmpty=false:=by
 have e:(B l).toList=l:=by rw [ByteArray.toList_eq,Zbw]
 rw [e];cases l with
 |nil=>exact absurd rfl h
 |cons a l=>rfl
theorem Zge (wr w1:World)(two:Array Value)(t0:Value)(T1 T2:TypeId)(hb1:Below ((wr.alloc (.cells two T1)).drew.alloc (.cells #[t0] T2)).heap.size ((wr.alloc (.cells two T1)).drew.alloc (.cells #[t0] T2)) w1):
 Below wr.heap.size wr w1∧w1.heap[wr.heap.size+1]? =some (.cells #[t0] T2 (0,0)):=by
 have hz:((wr.alloc (.cells two T1)).drew).heap.size=wr.heap.size+1:=by simp [World.drew]
 have e:=heap_alloc_new (wr.alloc (.cells two T1)).drew (.cells #[t0] T2);rw [hz] at e;refine⟨?_,?_⟩
 · exact((((Below.refl _ wr).alloc (Nat.le_refl _) _).trans (Below.refl _ _).drew).alloc (by rw [hz];omega) _).trans (hb1.mono (by simp [World.drew];omega))
 · rw [hb1.block _ (by simp [World.drew]),e]
theorem ZiJ (wr:World)(two:Array Value)(t0:Value)(T1 T2:TypeId):Below wr.heap.size wr ((wr.alloc (.cells two T1)).alloc (.cells #[t0] T2)).drew:=
 (((Below.refl _ wr).alloc (Nat.le_refl _) _).alloc (by simp) _).drew
theorem ZiI {K:Nat} (wr w1 w4:World)(two:Array Value)(t0 ts:Value)(T1 T2:TypeId)(hK:K<wr.heap.size)(hb1:Below ((wr.alloc (.cells two T1)).drew.alloc (.cells #[t0] T2)).heap.size ((wr.alloc (.cells two T1)).drew.alloc (.cells #[t0] T2)) w1)
 (hg:(w1.setCell ⟨wr.heap.size+1,0,none⟩ ts).grownBy w4 (some K)):w4.cell? ⟨wr.heap.size+1,0,none⟩=some ts∧But K wr.heap.size wr w4:=by
 obtain⟨h1,h2⟩:=Zge wr w1 two t0 T1 T2 hb1;have h3:=heap_setCell_same w1 (wr.heap.size+1) 0 _ _ ts h2;have hz:wr.heap.size+1<w1.heap.size:=(Array.getElem?_eq_some_iff.1 h2).1;refine⟨?_,?_⟩
 · have h4:=hg.block (wr.heap.size+1) (by simpa [World.setCell] using hz) (by simp;omega);rw [h3] at h4;rw [cell_of_row _ _ 0 _ _ _ h4];rfl
 · exact((But.of h1).setCell (.inl (by show wr.heap.size≤wr.heap.size+1;omega)) ts).trans ((But.grownK hg).mono (by simp [World.setCell];omega))
def D2V:ZaT→Value
 | .inl ps=> .tuple #[.string (B (Zd ps)),.agg #[.int .i64 0,.int .i64 0]]
 | .inr n=> .tuple #[.string ⟨#[]⟩,.agg #[.int .i64 2,.int .i64 n]]
def Za4 (r:ZaT)(w0:World)(e:Ending)(w':World):Prop:=e= .returned (D2V r)∧Below w0.heap.size w0 w'
theorem Dec2_w (c:Nat)(f:UInt8→UInt8→List Int)(hlen2:∀a b,(Zd (f a b)).length≤8)(l:List UInt8)(hl:l.length≤100000)(w:World)(hG:Grd w)
 (hS:∀(k:Nat) (a b:UInt8),l[k]? =some a→l[k+1]? =some b→128≤a.toNat→∀wx,Below w.heap.size w wx→Calls Tryz.prog 207 #[.int .i64 c,.int .u8 a.toNat,.int .u8 b.toNat] wx fun e w'=>e= .returned (.string (B (Zd (f a b))))∧Below wx.heap.size wx w'):
 Calls Tryz.prog 132 #[.int .i64 c,.string (B l)] w (Za4 (ZF f l 0) w):=by
 have hsz:=Zm l;have HP:Hid (∀r w',ZF f l 0=r→Below w.heap.size w w'→Za4 (ZF f l 0) w (.returned (D2V r)) w'):=Lib.hid fun r w' h1 h2=>by rw [h1];exact⟨rfl,h2⟩
 generalize Za4 (ZF f l 0) w=P at*;obtain⟨i0,hi,iz0,iz1,iz2⟩:=info_parts Zea;have hmm:=@run_makeMap Tryz.prog;obtain⟨W2,hW2⟩:∃W2,W2=(w.alloc (.cells #[.int .i64 0,.int .i64 0] 45)).alloc (.map #[] 0):=⟨_,rfl⟩
 have hz2:W2.heap.size=w.heap.size+1+1:=by rw [hW2];simp
 have HW2:=Lib.hid hW2;go_enter Tryz.func132,Tryz.ntmps132
 go_wp2_with fail
 rw [←HW2.out];go_loopw [7,8] (fun v i wr=>D2Rel f l w W2 v i wr) (fun _ i _=>l.length - (intOf i).toNat)
 case atStart=>
  refine⟨0,0,[],fun _ _=>none,Nat.zero_le _,rfl,Nat.le_refl _,?_,by simp [Zbi],Lib.hid ⟨by simp [Zbi],.inl ⟨rfl,rfl⟩⟩,?_,Lib.hid (fun _ _ _ h=>by cases h),But.refl _ _ _⟩
  · rw [List.drop_zero];exact(ZnD _).symm
  · rw [HW2.out];have:=MpT.made (w.alloc (.cells #[.int .i64 0,.int .i64 0] 45));rw [World.size_alloc] at this;exact this
 case round=>
  obtain⟨k,n,out,M,hk,rfl,hn,he,hol,hown,hM,hMf,hb⟩:=hrel;have hz:=hb.size;have hbw:Below w.heap.size w wr:=by
   have h2:Below w.heap.size w W2:=by rw [HW2.out];exact((Below.refl _ _).alloc (Nat.le_refl _) _).alloc (by simp) _
   exact h2.trans ((hb.mono (by omega)).below (by omega))
  have hG0:Grd wr:=hG.below hbw;have hwr1:w.heap.size<wr.heap.size:=by omega
  have hwr2:w.heap.size+1<wr.heap.size:=by omega
  by_cases hlt:k<l.length
  · have hg:=Zbp l k hlt;by_cases hlow:l[k].toNat<128
    · have hst:=ZnF f l k hlt hlow;have he2:ZF f l 0=Zar (out++[(l[k].toNat:Int)]) (ZF f (l.drop (k+1)) (k+1)):=by rw [he,hst,ZiL]
      have He2:=Lib.hid he2;have ee:Hid (Zd (out++[(l[k].toNat:Int)])=Zd out++[l[k]]):=Lib.hid (by rw [Zlq,Zc5 (by omega) (by omega)];congr 2;simp);clear he he2 hst;go_wp2_with (at_builtin;refine app_u8 rfl _ _ rfl (w.heap.size+2) u7 (Zd out) rfl wr (l[k]) _ rfl hown.out (by omega) (by omega) rfl ?_;intro v6 w6 HO6 hb6;have HB6:=Lib.hid hb6;clear hb6)
      go_roundw
      case rel=>
       refine⟨k+1,n,_,M,by omega,by go_num,by omega,He2.out,by rw [ee.out,List.length_append,List.length_singleton];omega,Lib.hid (by rw [ee.out];exact HO6.out),hM.same (HB6.out.block _ (by omega)),hMf,hb.trans (But.of HB6.out)⟩
      case measure=>simp [intOf];omega
    · have hh:128≤(l[k].toNat:Int):=by omega
      by_cases hsh:l.length=k+1
      · have hr:=ZnH f l k hlt hlow hsh;have he2:ZF f l 0= .inr k:=by rw [he,hr];rfl
        have He2:=Lib.hid he2;have hF:=hb.block w.heap.size (by omega) (by omega);rw [HW2.out,Below.heap_alloc _ _ _ (by simp),heap_alloc_new] at hF;obtain⟨q0,q1,q2,q3⟩:=Zbn hF;clear he he2 hr hF hown hM hMf hol;go_wp2_with fail
        refine bodyPost_ret (v:= .tuple #[.string ⟨#[]⟩,.agg #[.int .i64 2,.int .i64 k]]) (by simp [results,Tryz.results132,go_sem,q0,q1]) rfl ?_;exact HP.out (.inr k) _ He2.out ((hbw.setCell (Nat.le_refl _) _).setCell (Nat.le_refl _) _)
      · have hk1:k+1<l.length:=by omega
        have hg1:=Zbp l (k+1) hk1;have hgk:((k:Int)+1).toNat=k+1:=by omega
        have hF:=hb.block w.heap.size (by omega) (by omega);rw [HW2.out,Below.heap_alloc _ _ _ (by simp),heap_alloc_new] at hF;have hkn:¬(l.length:Int) - k<2:=by omega
        have hfe:=hS k (l[k]) (l[k+1]) (List.getElem?_eq_getElem hlt) (List.getElem?_eq_getElem hk1) (by omega);have Hbw:=Lib.hid hbw;have hl8:=hlen2 (l[k]) (l[k+1]);by_cases hf0:f l[k] l[k+1]=[]
        · have hr:=ZnG f l k hk1 hlow hf0;have he2:ZF f l 0= .inr k:=by rw [he,hr];rfl
          have He2:=Lib.hid he2;clear he he2 hr;generalize hx0:l[k]=x at*;generalize hy0:l[k+1]=y at*;have hts:Zd (f x y)=[]:=by rw [hf0];rfl
          have hM1:=((hM.below ((Below.refl _ wr).alloc (Nat.le_refl _) (.cells #[.int .u8 x.toNat,.int .u8 y.toNat] 266))).below ((Below.refl _ _).drew))
          have HF:=Lib.hid hF;rw [hts,show B []=⟨#[]⟩ from rfl] at hfe;clear hS hlen2 hf0 hl8;cases hMx:M x y with
          |none=>
           have hMx':=hMx;clear hMx hMf hown;go_wp2_with fail
           go_region
           go_wp2_with (first
            |(at_lookup;refine mt_no rfl _ _ rfl hM1 rfl x y rfl hMx' ?_;intro t0)
            |(go_at_call 207;refine(hfe _ (((Hbw.out.alloc Hbw.out.size _).drew).alloc (by have:=Hbw.out.size;simp [World.drew];omega) _)).mono ?_;rintro e w1 ⟨rfl,hb1⟩;obtain⟨hc1,hf1⟩:=Zcx hb1;have HX1:=Lib.hid hb1;have hM3:=(hM.below (Zge _ _ _ _ _ _ hb1).1).same (Zfe (w:=w1) (k:=wr.heap.size+1) (j:=0) (g:=w.heap.size+1) (by omega) (.string ⟨#[]⟩)))
            |(at_mapUpdate;refine ZjT rfl _ _ _ rfl hM3 rfl x y rfl [] rfl (by omega) ?_;intro w4 hM4 hg4;obtain⟨q4,hbt4⟩:=ZiI _ _ _ _ _ _ _ _ (by omega) HX1.out hg4;have hF4:=Zbn ((hbt4.block w.heap.size (by omega) (by omega)).trans hF);obtain⟨p0,p1,p2,p3⟩:=hF4;have HT4:=Lib.hid hbt4;have HM4:=Lib.hid hM4;clear hbt4 hM4 hg4))
           refine bodyPost_ret (v:= .tuple #[.string ⟨#[]⟩,.agg #[.int .i64 2,.int .i64 k]]) (by simp [results,Tryz.results132,go_sem,p0,p1]) rfl ?_;exact HP.out (.inr k) _ He2.out ((((hbw.trans ((HT4.out.mono hbw.size).below (by omega))).setCell (Nat.le_refl _) _).setCell (Nat.le_refl _) _))
          |some tt=>
           have htt:tt=[]:=by rw [hMf.out x y tt hMx,hts]
           subst htt;have hMx':=hMx;clear hMx hMf hown hfe;have qF:=Zbn hF;obtain⟨p0,p1,p2,p3⟩:=qF;go_wp2_with fail
           go_region
           go_wp2_with (first
            |(at_lookup;refine ZoR rfl _ _ rfl hM1 rfl x y rfl hMx' ?_))
           refine bodyPost_ret (v:= .tuple #[.string ⟨#[]⟩,.agg #[.int .i64 2,.int .i64 k]]) (by simp [results,Tryz.results132,go_sem,p0,p1,hwr1]) rfl ?_;exact HP.out (.inr k) _ He2.out (((((hbw.setCell (Nat.le_refl _) _).setCell (Nat.le_refl _) _).alloc (by simp [World.setCell];omega) _).alloc (by simp [World.setCell];omega) _).drew)
        · have hr:=ZnI f l k hk1 hlow hf0;have he2:ZF f l 0=Zar (out++f l[k] l[k+1]) (ZF f (l.drop (k+2)) (k+2)):=by rw [he,hr,ZiL]
          have hto:Zd (out++f l[k] l[k+1])=Zd out++Zd (f l[k] l[k+1]):=Zfn _ _;have htn:Zd (f l[k] l[k+1])≠[]:=by
           intro h;cases hq:f l[k] l[k+1] with
           |nil=>exact hf0 hq
           |cons p ps=>rw [hq,Zap] at h;exact Zgj p (List.append_eq_nil_iff.1 h).1
          clear he hr hS hlen2;generalize hx0:l[k]=x at*;generalize hy0:l[k+1]=y at*;have Hts:=Lib.hid (show Zd (f x y)=Zd (f x y) from rfl);have hMf2:∀tt,M x y=some tt→tt=Zd (f x y):=fun tt h=>hMf.out x y tt h;generalize hgt:Zd (f x y)=ts at*;have Hgt:=Lib.hid hgt;have He2:=Lib.hid he2;have Hto:=Lib.hid hto;have hts1:(B ts).toList.isEmpty=false:=Znh htn;clear hgt he2 hto Hts hf0;have hM1:=((hM.below ((Below.refl _ wr).alloc (Nat.le_refl _) (.cells #[.int .u8 x.toNat,.int .u8 y.toNat] 266))).below ((Below.refl _ _).drew))
          cases hMx:M x y with
          |none=>
           have hMx':=hMx;clear hMx hMf2;go_wp2_with fail
           go_region
           go_wp2_with (first
            |(at_lookup;refine mt_no rfl _ _ rfl hM1 rfl x y rfl hMx' ?_;intro t0)
            |(go_at_call 207;refine(hfe _ (((Hbw.out.alloc Hbw.out.size _).drew).alloc (by have:=Hbw.out.size;simp [World.drew];omega) _)).mono ?_;rintro e w1 ⟨rfl,hb1⟩;obtain⟨hc1,hf1⟩:=Zcx hb1;have HX1:=Lib.hid hb1;have hM3:=(hM.below (Zge _ _ _ _ _ _ hb1).1).same (Zfe (w:=w1) (k:=wr.heap.size+1) (j:=0) (g:=w.heap.size+1) (by omega) (.string (B ts))))
            |(at_mapUpdate;refine ZjT rfl _ _ _ rfl hM3 rfl x y rfl ts rfl (by omega) ?_;intro w4 hM4 hg4;obtain⟨q4,hbt4⟩:=ZiI _ _ _ _ _ _ _ _ (by omega) HX1.out hg4;have HT4:=Lib.hid hbt4;have HM4:=Lib.hid hM4;have hz4:=hbt4.size;clear hbt4 hM4 hg4)
            |(at_builtin;refine Zio rfl _ _ rfl (w.heap.size+2) u7 (Zd out) rfl w4 ts (Zb0 hown.out HT4.out (by omega)) (by omega) (by omega) (by omega) rfl ?_;intro v6 w6 HO6 hb6;have HB6:=Lib.hid hb6;clear hb6))
           go_roundw
           case rel=>
            refine⟨k+2,n+1,_,_,by omega,by go_num,by omega,He2.out,by rw [Hto.out,List.length_append];omega,Lib.hid (by rw [Hto.out];exact HO6.out),HM4.out.same (HB6.out.block _ (by omega)),Lib.hid ?_,hb.trans ((HT4.out.mono (by omega)).trans (But.of HB6.out))⟩;intro a b t h;by_cases e:a=x∧b=y
            · simp only [e,and_self,if_true,Option.some.injEq] at h;rw [←h,e.1,e.2];exact Hgt.out.symm
            · simp only [e,if_false] at h;exact hMf.out a b t h
           case measure=>simp [intOf];omega
          |some tt=>
           obtain rfl:=hMf2 tt hMx;have hMx':=hMx;clear hMx hMf2 hfe;go_wp2_with fail
           go_region
           go_wp2_with (first
            |(at_lookup;refine ZjU rfl _ _ rfl hM1 rfl x y rfl hMx' ?_)
            |(at_builtin;refine Zio rfl _ _ rfl (w.heap.size+2) u7 (Zd out) rfl _ tt (Zo hown.out (ZiJ _ _ _ _ _)) (by simp [World.drew];omega) (by omega) (by omega) rfl ?_;intro v6 w6 HO6 hb6;have HB6:=Lib.hid hb6;clear hb6))
           go_roundw
           case rel=>
            have hbd:=ZiJ wr #[.int .u8 x.toNat,.int .u8 y.toNat] (.string (B tt)) 266 268;refine⟨k+2,n,_,_,by omega,by go_num,by omega,He2.out,by rw [Hto.out,List.length_append];omega,Lib.hid (by rw [Hto.out];exact HO6.out),(hM.below hbd).same (HB6.out.block _ (by omega)),hMf,hb.trans (But.of ((hbd.mono (by omega)).trans HB6.out))⟩
           case measure=>simp [intOf];omega
  · have hke:k=l.length:=by omega
    subst hke;have hr:=ZnE f l l.length (Nat.le_refl _);have he2:ZF f l 0= .inl out:=by rw [he,hr];simp [Zar]
    have He2:=Lib.hid he2;have hcv:=Zgc wr hown.out;have hF:=hb.block w.heap.size (by omega) (by omega);rw [HW2.out,Below.heap_alloc _ _ _ (by simp),heap_alloc_new] at hF;obtain⟨q0,q1,q2,q3⟩:=Zbn hF;clear he he2 hr hF hown hM hMf hol;go_wp2_with fail
    refine bodyPost_ret (v:= .tuple #[.string (B (Zd out)),.agg #[.int .i64 0,.int .i64 0]]) (by simp [results,Tryz.results132,go_sem,q0,q1]) rfl ?_;exact HP.out (.inl out) _ He2.out ((hbw.setCell (Nat.le_refl _) _).setCell (Nat.le_refl _) _)
end Go.Proofs.YtnbkfkbcpfkddaaGreatDoor
namespace Go.Proofs.YtnbkfkbcpfkddaaGreatDoor
open Go Go.RowKit
theorem F2 {w w1:World} {T:TypeId} {a b:Value} (hb:Below (w.alloc (.cells #[a,b] T)).heap.size (w.alloc (.cells #[a,b] T)) w1):w1.heap[w.heap.size]? =some (.cells #[a,b] T (0,0)):=by
 rw [hb.block _ (by simp),heap_alloc_new]
theorem ZlI (c:Nat)(hc:c≤3)(l:List UInt8)(hl:l.length≤100000)(w:World)(hG:Grd w):
 Calls Tryz.prog 66 #[.int .i64 c,.string (B l)] w fun e w'=>e= .returned (.tuple #[.string (B (Zd (l.map fun x=>ZaO c x.toNat))),.agg #[.int .i64 0,.int .i64 0]])∧Below w.heap.size w w':=by
 have hof:=fun w hT=>ZmD c hc w hT;have hde:=fun{A} {cp} {q} {rs} hL hn w h hT=>ZhJ hc (A:=A) (cp:=cp) (q:=q) (rs:=rs) (B l) hL (by rw [Zm];exact hl) hn w h hT;rw [show tB ((B l).data.toList.map fun x=>ZaO c x.toNat)=B (Zd (l.map fun x=>ZaO c x.toNat)) by rw [Zbw];rfl] at hde;generalize B (Zd (l.map fun x=>ZaO c x.toNat))=R at*;have hT:=hG.tabs;unfold ZaC at hof;rcases(show c=0∨c=1∨c=2∨c=3 by omega) with rfl|rfl|rfl|rfl
 all_goals
  go_enter Tryz.func66,Tryz.ntmps66
  go_wp2_with (first
   |(go_at_call 130;refine(hof _ (ZG hT _)).mono ?_;rintro e w1 ⟨A,cp,rs,rfl,h1,h2,h3,h4,hb1⟩;have T1:=ZU (ZG hT _) hb1 (Nat.le_refl _);have HF:=Lib.hid (F2 hb1);have HB:=Lib.hid (Zh hb1);have H4:=Lib.hid h4;clear hb1 h4)
   |(go_at_call 131;refine(hde H4.out h2 _ ((h3.below ((Below.refl _ _).alloc (Nat.le_refl _) _)).more (by simp)) (ZG T1 _)).mono ?_;rintro e w2 ⟨rfl,hb2⟩;have hF2:=(Zh hb2).block w.heap.size (Array.getElem?_eq_some_iff.1 HF.out).1;rw [HF.out] at hF2;have hB2:=HB.out.trans ((Zh hb2).mono HB.out.size);obtain⟨q0,q1,q2,q3⟩:=Zbn hF2;have HF2:=Lib.hid hF2;have HB2:=Lib.hid hB2;clear hb2 hF2 hB2))
  refine bodyPost_ret (v:= .tuple #[.string R,.agg #[.int .i64 0,.int .i64 0]]) (by simp [results,Tryz.results66,go_sem,q0,q1]) rfl ⟨rfl,?_⟩;exact(HB2.out.setCell (Nat.le_refl _) _).setCell (Nat.le_refl _) _
theorem D2V_eq (r:ZaT):∃s e a,D2V r= .tuple #[.string s,.agg #[.int .i64 e,.int .i64 a]]:=by
 cases r with
 |inl ps=>exact⟨_,_,_,rfl⟩
 |inr n=>exact⟨_,_,_,rfl⟩
theorem ZlJ (c:Nat)(hc:4≤c∧c≤6)(l:List UInt8)(w:World)(hG:Grd w)(r:ZaT)
 (hd:∀wx,Below w.heap.size w wx→Calls Tryz.prog 132 #[.int .i64 c,.string (B l)] wx (Za4 r wx)):
 Calls Tryz.prog 66 #[.int .i64 c,.string (B l)] w (Za4 r w):=by
 unfold Za4 at hd⊢;obtain⟨s,x,a,hr⟩:=D2V_eq r;rw [hr] at hd⊢;rcases(show c=4∨c=5∨c=6 by omega) with rfl|rfl|rfl
 all_goals
  go_enter Tryz.func66,Tryz.ntmps66
  go_wp2_with (go_at_call 132;refine(hd _ ((Below.refl _ w).alloc (Nat.le_refl _) _)).mono ?_;rintro e w1 ⟨rfl,hb1⟩;have HF:=Lib.hid (F2 hb1);obtain⟨q0,q1,q2,q3⟩:=Zbn HF.out;have HB:=Lib.hid (Zh hb1);clear hb1)
  refine bodyPost_ret (v:= .tuple #[.string s,.agg #[.int .i64 x,.int .i64 a]]) (by simp [results,Tryz.results66,go_sem,q0,q1]) rfl ⟨rfl,?_⟩;exact(HB.out.setCell (Nat.le_refl _) _).setCell (Nat.le_refl _) _
theorem Zlt {l:List UInt8} {ps:List Int} (h:Good ⟨l.toArray⟩ ps):Zd ps=l:=by
 have:=h.1;simpa using this.symm
theorem ZlK (l:List UInt8)(hl:l.length≤100000)(w:World)(hG:Grd w):
 Calls Tryz.prog 66 #[.int .i64 7,.string (B l)] w (Za4 (Zcq l) w):=by
 have hT:=hG.tabs;rcases Zhq l with⟨ps,h,e⟩|⟨n,h,e⟩
 · rw [e];unfold Za4 D2V;simp only;rw [Zlt h];have hck:=fun w hT=>ZhH (B l) ps h (by rw [Zm];omega) w hT;have hbd:=fun w=>ZT 0 0 rfl w;clear h e;go_enter Tryz.func66,Tryz.ntmps66
   go_wp2_with (first
    |(go_at_call 133;refine(hck _ (ZG hT _)).mono ?_;rintro e w1 ⟨rfl,hb1⟩;have HF:=Lib.hid (F2 hb1);have HB:=Lib.hid (Zh hb1);clear hb1)
    |(go_at_call 8;refine(hbd _).mono ?_;rintro e w2 ⟨rfl,hb2⟩;have hF2:=(Zh hb2).block w.heap.size (Array.getElem?_eq_some_iff.1 HF.out).1;rw [HF.out] at hF2;have hB2:=HB.out.trans ((Zh hb2).mono HB.out.size);obtain⟨q0,q1,q2,q3⟩:=Zbn hF2;have HB2:=Lib.hid hB2;clear hb2 hF2 hB2))
   refine bodyPost_ret (v:= .tuple #[.string (B l),.agg #[.int .i64 0,.int .i64 0]]) (by simp [results,Tryz.results66,go_sem,q0,q1]) rfl ⟨rfl,?_⟩;exact(HB2.out.setCell (Nat.le_refl _) _).setCell (Nat.le_refl _) _
 · rw [e];unfold Za4 D2V;simp only;have hck:=fun w hT=>ZlL (B l) n h (by rw [Zm];omega) w hT;have hbd:=fun w=>Za5 2 n (by decide) w;clear h e;go_enter Tryz.func66,Tryz.ntmps66
   go_wp2_with (first
    |(go_at_call 133;refine(hck _ (ZG hT _)).mono ?_;rintro e w1 ⟨rfl,hb1⟩;have HF:=Lib.hid (F2 hb1);have HB:=Lib.hid (Zh hb1);clear hb1)
    |(go_at_call 8;refine(hbd _).mono ?_;rintro e w2 ⟨rfl,hb2⟩;have hF2:=(Zh hb2).block w.heap.size (Array.getElem?_eq_some_iff.1 HF.out).1;rw [HF.out] at hF2;have hB2:=HB.out.trans ((Zh hb2).mono HB.out.size);obtain⟨q0,q1,q2,q3⟩:=Zbn hF2;have HB2:=Lib.hid hB2;obtain⟨b0,b1,f0,f1⟩:=Zbn (F2 hb2);clear hb2 hF2 hB2))
   go_region
   go_wp2_with fail
   refine bodyPost_ret (v:= .tuple #[.string ⟨#[]⟩,.agg #[.int .i64 2,.int .i64 n]]) (by simp [results,Tryz.results66,go_sem,q0,q1]) rfl ⟨rfl,?_⟩;exact((HB2.out.setCell (Nat.le_refl _) _).setCell (Nat.le_refl _) _).drew
end Go.Proofs.YtnbkfkbcpfkddaaGreatDoor
namespace Go.Proofs.YtnbkfkbcpfkddaaGreatDoor
open Go Go.RowKit Go.Maps
theorem ZfF (l:List UInt8)(hl:l.length≤100000)(w:World)(hT:Zj w):Calls Tryz.prog 123 #[.string (B l)] w fun e w'=>e= .returned (.bool (Zbj l))∧Below w.heap.size w w':=by
 unfold Zbj;rcases Zhq l with⟨ps,h,e⟩|⟨n,h,e⟩
 · rw [e];exact ZmY (B l) ps h (by rw [Zm];omega) w hT
 · rw [e];exact ZmX (B l) n h (by rw [Zm];omega) w hT
end Go.Proofs.YtnbkfkbcpfkddaaGreatDoor
namespace Go.Proofs.YtnbkfkbcpfkddaaGreatDoor
open Go Go.RowKit
theorem eq_lit (l:List UInt8)(c:List UInt8)(h:l≠c):((B l).toList==c)=false:=by
 rw [ByteArray.toList_eq,Zbw,beq_eq_false_iff_ne];exact h
theorem Ziz {w:World} {p:Addr} {v:Value} (h:w.cell? p=some v):p.block<w.heap.size:=World.block_lt_of_cell? _ _ h
theorem InAt.ne_u8 {w:World} {K:Nat} {s:InS} (h:InAt w K s){g j:Nat} {z:Int} (hc:w.cell? ⟨g,j,none⟩=some (.int .u8 z)):g≠K:=by
 rintro rfl;rw [cell_of_row _ g j _ _ (0,0) h.row] at hc;unfold five at hc
 match j,hc with
 |0,hc=>simp at hc
 |1,hc=>simp at hc
 |2,hc=>simp at hc
 |3,hc=>simp at hc
 |4,hc=>simp at hc
 |j+5,hc=>simp at hc
theorem Grd.but {w w':World} {K:Nat} {s:InS} (h:Grd w)(hi:InAt w K s)(hb:But K w.heap.size w w'):Grd w':=by
 have hu:∀g j z,w.cell? ⟨g,j,none⟩=some (.int .u8 z)→w'.cell? ⟨g,j,none⟩=some (.int .u8 z):=fun g j z hc=>by
  rw [hb.cell (Ziz hc) (hi.ne_u8 hc),hc]
 refine⟨⟨fun c hc=>hu _ _ _ (h.tabs.1 c hc),fun i hi2=>⟨hu _ _ _ (h.tabs.2 i hi2).1,hu _ _ _ (h.tabs.2 i hi2).2⟩⟩,fun j hj=>hu _ _ _ (h.db j hj),?_⟩;obtain⟨m,hm⟩:=h.ml;refine⟨m,?_⟩;rw [hb.cell (Ziz hm) ?_,hm];intro e;have e2:3=K:=e;rw [e2,hi.get.1] at hm;simp at hm
section
variable {w wx wy:World} {K:Nat} {BX:Array Value} {nm:ByteArray} {raw:Bool} {s s':InS}
end
theorem Zlp (s:InS)(k:Nat):(s.take k).1.length≤s.t.length:=by
 unfold InS.take
 (repeat' split)<;>simp
 omega
theorem Bx.six {w:World} {g:Nat} {a b c d e f:Value} {T:TypeId} (h:Bx w g #[a,b,c,d,e,f] T):w.cell? ⟨g,0,none⟩=some a∧w.cell? ⟨g,1,none⟩=some b∧w.cell? ⟨g,2,none⟩=some c∧w.cell? ⟨g,3,none⟩=some d∧w.cell? ⟨g,4,none⟩=some e∧w.cell? ⟨g,5,none⟩=some f:=
 ⟨h.cell 0,h.cell 1,h.cell 2,h.cell 3,h.cell 4,h.cell 5⟩
section
variable {ops:Array Oper} {rest:List Oper} {o:Oper} {a:Act} {Q:Exit→Act→World→Prop}
end
section
variable {w wx wy:World} {F K:Nat} {BX:Array Value} {s s':InS}
end
theorem fail_t (s:InS)(e a:Nat):(s.fail e a).t=s.t:=by unfold InS.fail;split<;>rfl
theorem Zqi (s:InS):s.short.t=s.t:=fail_t _ _ _
theorem Zhk (s:InS)(k:Nat):(s.take k).2.t=s.t:=by
 unfold InS.take;split
 · rfl
 · split
   · exact Zqi s
   · rfl
section
variable {w wx wy:World} {OA:Array Value}
end
theorem Bx.four {w:World} {g:Nat} {a b c d:Value} {T:TypeId} (h:Bx w g #[a,b,c,d] T):(w.cell? ⟨g,0,none⟩=some a∧w.cell? ⟨g,1,none⟩=some b∧w.cell? ⟨g,2,none⟩=some c∧w.cell? ⟨g,3,none⟩=some d)∧(∀j,w.frozen? ⟨g,j,none⟩=false)∧g<w.heap.size:=⟨⟨h.cell 0,h.cell 1,h.cell 2,h.cell 3⟩,h.free,h.lt⟩
structure Pi where
 nm:ByteArray
 raw:Bool
 text:List UInt8
 set:Int
def RdN {α:Type} (m:Nat)(f:α→List Value)(w:World)(B:Nat)(A:Option Addr)(l:List α):Prop:=Reads w B m A l.length (l.flatMap f)
section
variable {α:Type} {m:Nat} {f:α→List Value} {w w':World} {B0 B1:Nat} {A:Option Addr} {l:List α}
theorem RdN.below (h:RdN m f w B0 A l)(hb:Below B0 w w'):RdN m f w' B0 A l:=Reads.below h hb
theorem RdN.more (h:RdN m f w B0 A l)(hb:B0≤B1):RdN m f w B1 A l:=Reads.more h hb
theorem RdN.at_ (hf:∀x,(f x).length=m)(h:RdN m f w B0 A l){k:Nat} {x:α} (hk:l[k]? =some x):
 ∃ad,A=some ad∧ad.block<B0∧∀j u,j<m→(f x)[j]? =some u→w.cell? (ad.add (k*m+j))=some u:=by
 have hlt:k<l.length:=(List.getElem?_eq_some_iff.1 hk).1;obtain⟨ad,hA,hb,hc⟩:=h.2 (by omega);exact⟨ad,hA,hb,fun j u hj hu=>hc _ _ ((Zgo m f hf l k j x hk hj).trans hu)⟩
theorem RdN.of_rows (hf:∀x,(f x).length=m){v:Value} (h:Zg f B0 w v l):∃A c,v= .slice A l.length c∧RdN m f w w.heap.size A l:=by
 rcases h with⟨rfl,rfl⟩|⟨bk,c,h0,rfl,h2,h5,h3,h4⟩
 · exact⟨none,0,rfl,Reads.none_⟩
 · refine⟨_,c,rfl,ZcC m f hf l,fun _=>⟨_,rfl,h3,fun j u hu=> ?_⟩⟩;have hadd:(⟨bk,0,none⟩:Addr).add j=⟨bk,j,none⟩:=by unfold Addr.add;split<;>simp_all
   rw [hadd];exact h4 j u hu
theorem RdN.of_rows1 (hf:∀x,(f x).length=m){c:Nat} (h:Zg f B0 w (.slice A l.length c) l):RdN m f w w.heap.size A l:=by
 obtain⟨A',c',hv,hr⟩:=RdN.of_rows hf h;simp only [Value.slice.injEq] at hv;obtain⟨rfl,_,rfl⟩:=hv;exact hr
end
section
variable {w wx wy:World} {S enc:Nat}
end
def ZY (base:Nat)(w:World)(v:Value)(L:List (List UInt8)):Prop:=w.ownsRow base 9 1 v L.length (L.map sV)
theorem ZY.below {base:Nat} {w w':World} {v:Value} {L:List (List UInt8)} (h:ZY base w v L)(hb:Below w.heap.size w w'):ZY base w' v L:=Zo h hb
theorem ZY.len {base:Nat} {w:World} {v:Value} {L:List (List UInt8)} (h:ZY base w v L):∃A c,v= .slice A L.length c∧L.length≤c:=by
 unfold ZY at h;exact(ZbF h).2
end Go.Proofs.YtnbkfkbcpfkddaaGreatDoor
namespace Go.Proofs.YtnbkfkbcpfkddaaGreatDoor
open Go
inductive Pl where
 |nil
 |one (i:Nat) (still:Bool) (r:Pl)
 |two (i j:Nat) (p q:Pl)
def Pl.depth:Pl→Nat
 | .nil=>0
 | .one _ _ r=>r.depth+1
 | .two _ _ p q=>max p.depth q.depth+1
def ZbH (ops:Array Oper):Pl→Array Bool→Bool
 | .nil,listed=>(Region.ready .any ops listed).isEmpty
 | .one i true r,listed=>(Region.ready .any ops listed).contains i&&Region.free .any ops listed i&&ZbH ops r (listed.setIfInBounds i true)
 | .one i false r,listed=>(Region.ready .any ops listed==[i])&&ZbH ops r (listed.setIfInBounds i true)
 | .two i j p q,listed=>(Region.ready .any ops listed==[i,j])&&ZbH ops p (listed.setIfInBounds i true)&&ZbH ops q (listed.setIfInBounds j true)
section
variable {P:Program} {l:List Oper} {Q:Exit→Act→World→Prop} {S:World→Prop}
def Zb9 (P:Program)(l:List Oper)(Q:Exit→Act→World→Prop)(S:World→Prop)(i:Nat)(R:Act→World→Prop)(a:Act)(w:World):Prop:=
 ∃o,Zan l i=some o∧(if Region.wanted o (yielded l.toArray a.tmps)=true then o.wp P a w (fun a' w'=>S w'∧R a' w') Q else R (a.put o.dst undef) w)
def Zaz (P:Program)(l:List Oper)(Q:Exit→Act→World→Prop)(S:World→Prop):Pl→Act→World→Prop
 | .nil,a,w=>Q .normal a w
 | .one i true r,a,w=>∃o v,Zan l i=some o∧YieldsIf P l.toArray S o v a∧Zaz P l Q S r (a.put o.dst v) w
 | .one i false r,a,w=>Zb9 P l Q S i (Zaz P l Q S r) a w
 | .two i j p q,a,w=>Zb9 P l Q S i (Zaz P l Q S p) a w∧Zb9 P l Q S j (Zaz P l Q S q) a w
theorem ZgL {i:Nat} {R R':Act→World→Prop} {a:Act} {w:World} (h:Zb9 P l Q S i R a w)(hS:S w)(hR:∀a w,S w→R a w→R' a w):
 Zb9 P l Q S i R' a w:=by
 obtain⟨o,ho,hr⟩:=h;refine⟨o,ho,?_⟩;split
 · rename_i hw
   rw [if_pos hw] at hr;exact Oper.wp_mono (fun a' w' hh=>⟨hh.1,hR _ _ hh.1 hh.2⟩) hr
 · rename_i hw
   rw [if_neg hw] at hr;exact hR _ _ hS hr
theorem ZdC (hsel:Region.noSelect l.toArray=true)(hQ:∀c (a:Act) d v w,Q (.panic c) (a.put d v) w→Q (.panic c) a w):
 ∀(pl:Pl) (fuel:Nat) (listed:Array Bool) (a:Act) (w:World),ZbH l.toArray pl listed=true→pl.depth≤fuel→S w→Zaz P l Q S pl a w→wpAnyH P .any l.toArray Q S fuel listed a w
 | .nil,fuel,listed,a,w,hok,_,_,h=>wpAnyH_done (by simpa [ZbH] using hok) h fuel
 | .one i b r,0,listed,a,w,hok,hf,hS,h=>by simp [Pl.depth] at hf
 | .two i j p q,0,listed,a,w,hok,hf,hS,h=>by simp [Pl.depth] at hf
 | .one i true r,fuel+1,listed,a,w,hok,hf,hS,h=>by
  obtain⟨o,v,ho,hy,hr⟩:=h;simp only [ZbH,Bool.and_eq_true] at hok;obtain⟨⟨h1,h2⟩,h3⟩:=hok;rw [ZcJ] at ho;exact wpAnyH_take ho hsel h2 h1 (fun c a w=>hQ c a _ _ w) hy hS (ZdC hsel hQ r fuel _ _ w h3 (by simpa [Pl.depth] using hf) hS hr)
 | .one i false r,fuel+1,listed,a,w,hok,hf,hS,h=>by
  simp only [ZbH,Bool.and_eq_true,beq_iff_eq] at hok;obtain⟨h1,h3⟩:=hok;refine wpAnyH_all h1 (by simp) fun j hj=> ?_;have hj':j=i:=by simpa using hj
  subst hj';obtain⟨o,ho,hr⟩:=ZgL h hS (fun a w hS hr=>ZdC hsel hQ r fuel _ a w h3 (by simpa [Pl.depth] using hf) hS hr);rw [ZcJ] at ho;unfold wpOp;rw [ho];simp only;split
  · rename_i hw
    rw [if_pos hw] at hr;exact .inl hr
  · rename_i hw
    rw [if_neg hw] at hr;exact⟨hS,hr⟩
 | .two i k p q,fuel+1,listed,a,w,hok,hf,hS,h=>by
  simp only [ZbH,Bool.and_eq_true,beq_iff_eq] at hok;obtain⟨⟨h1,h3⟩,h4⟩:=hok;have hd:max p.depth q.depth≤fuel:=by simpa [Pl.depth] using hf
  refine wpAnyH_all h1 (by simp) fun j hj=> ?_;have hj':j=i∨j=k:=by simpa using hj
  rcases hj' with rfl|rfl
  · obtain⟨o,ho,hr⟩:=ZgL h.1 hS (fun a w hS hr=>ZdC hsel hQ p fuel _ a w h3 (by omega) hS hr);rw [ZcJ] at ho;unfold wpOp;rw [ho];simp only;split
    · rename_i hw
      rw [if_pos hw] at hr;exact .inl hr
    · rename_i hw
      rw [if_neg hw] at hr;exact⟨hS,hr⟩
  · obtain⟨o,ho,hr⟩:=ZgL h.2 hS (fun a w hS hr=>ZdC hsel hQ q fuel _ a w h4 (by omega) hS hr);rw [ZcJ] at ho;unfold wpOp;rw [ho];simp only;split
    · rename_i hw
      rw [if_pos hw] at hr;exact .inl hr
    · rename_i hw
      rw [if_neg hw] at hr;exact⟨hS,hr⟩
theorem Zcr {id:Nat} {a:Act} {w:World} (S:World→Prop)(pl:Pl)(hm:P.follows .mixedOrders=true)(hsel:Region.noSelect l.toArray=true)
 (hok:ZbH l.toArray pl (Array.replicate l.toArray.size false)=true) (hlen:pl.depth≤l.toArray.size)
 (hQ:∀c (a:Act) d v w,Q (.panic c) (a.put d v) w→Q (.panic c) a w) (hS:S w.drew) (h:Zaz P l Q S pl a w.drew):(Code.region id l.toArray true).wp P Q a w:=
 wp_region_held_drew hm hS fun hS=>ZdC hsel hQ pl _ _ a w.drew hok hlen hS h
theorem Zae {a:Act} {w:World} (h:Q .normal a w):Zaz P l Q S .nil a w:=h
theorem ZaM {i:Nat} {r:Pl} {o:Oper} {a:Act} {w:World} (ho:Zan l i=some o)(hw:Region.wanted o (yielded l.toArray a.tmps)=false)(h:Zaz P l Q S r (a.put o.dst undef) w):Zaz P l Q S (.one i true r) a w:=
 ⟨o,undef,ho,.inr ⟨hw,rfl⟩,h⟩
theorem Zs {i:Nat} {r:Pl} {o:Oper} {a:Act} {w:World} (ho:Zan l i=some o)(hw:Region.wanted o (yielded l.toArray a.tmps)=true)(v:Value)(hv:∀w,S w→(execOp a.eval o).run P w= .ok (.value v) w)(h:Zaz P l Q S r (a.put o.dst v) w):Zaz P l Q S (.one i true r) a w:=
 ⟨o,v,ho,.inl ⟨hw,hv⟩,h⟩
theorem Ze {i:Nat} {R:Act→World→Prop} {o:Oper} {a:Act} {w:World} (ho:Zan l i=some o)(hw:Region.wanted o (yielded l.toArray a.tmps)=true)
 (h:∀K:Act→World→Prop,Shut (∀a w,S w→R a w→K a w)→o.wp P a w K Q):Zb9 P l Q S i R a w:=
 ⟨o,ho,by rw [if_pos hw];exact h _ (fun a w hS hr=>⟨hS,hr⟩)⟩
theorem Zl {i:Nat} {r:Pl} {a:Act} {w:World} (h:Zb9 P l Q S i (Zaz P l Q S r) a w):Zaz P l Q S (.one i false r) a w:=h
theorem Zbf {i j:Nat} {p q:Pl} {a:Act} {w:World} (h1:Zb9 P l Q S i (Zaz P l Q S p) a w)(h2:Zb9 P l Q S j (Zaz P l Q S q) a w):Zaz P l Q S (.two i j p q) a w:=⟨h1,h2⟩
end
end Go.Proofs.YtnbkfkbcpfkddaaGreatDoor
