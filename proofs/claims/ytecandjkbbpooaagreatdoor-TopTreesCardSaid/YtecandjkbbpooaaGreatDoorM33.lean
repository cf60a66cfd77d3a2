/- Lemmas for a statement on the tops; conditions: as each says. -/
import Derived.Lib.AppendStr
import Derived.Lib.ConvBytes
import Derived.Test.YtecandjkbbpooaaGreatDoorM21
import Derived.Test.YtecandjkbbpooaaGreatDoorM24
import Derived.Test.YtecandjkbbpooaaGreatDoorM31
import Derived.Test.YtecandjkbbpooaaGreatDoorM32
set_option linter.unusedVariables false
set_option linter.unusedSimpArgs false
set_option maxRecDepth 100000
set_option maxHeartbeats 4000000
namespace Go.Proofs.YtecandjkbbpooaaGreatDoor
open Go Go.RowKit Go.Maps
structure Grd (w:World):Prop where
 tabs:Zk w
 db:DB w
 ml:ML w
theorem Grd.below {w w':World} (h:Grd w)(hb:Below w.heap.size w w'):Grd w':=⟨Zaf h.tabs hb (Nat.le_refl _),Znu h.db hb (Nat.le_refl _),Zn9 h.ml hb (Nat.le_refl _)⟩
theorem Grd.alloc {w:World} (h:Grd w)(o:Obj):Grd (w.alloc o):=h.below ((Below.refl _ _).alloc (Nat.le_refl _) _)
theorem Zts (l:List UInt8):Lib.strCells (B l)=l.map u8V:=by
 simp [Lib.strCells,B,u8V]
theorem MpT.same {w w':World} {b n:Nat} {M:UInt8→UInt8→Option (List UInt8)} (h:MpT w b n M)(e:w'.heap[b]? =w.heap[b]?):MpT w' b n M:=by
 obtain⟨D,⟨es,cl,h1,h2⟩,h3⟩:=h;exact⟨D,⟨es,cl,e.trans h1,h2⟩,h3⟩
section
variable {ops:Array Oper} {rest:List Oper} {o:Oper} {a:Act} {Q:Exit→Act→World→Prop}
theorem mt_no {w:World} {b n:Nat} {M:UInt8→UInt8→Option (List UInt8)} (hg:o.guard=none)(m x:Operand)(hop:o.op=Op.lookup 263 m x true)(h:MpT w b n M)(hm:a.eval m= .map (some b))(p q:UInt8)(hx:a.eval x= .agg #[.int .u8 p.toNat,.int .u8 q.toNat])(hk:M p q=none)
 (hK:∀t:List UInt8,wpList Tryz.prog ops Q rest (a.put o.dst (.tuple #[.agg #[.string (B t)],.bool false])) w):
 wpList Tryz.prog ops Q (o::rest) a w:=
 Zlq hg m x hop h hm p q hx fun t _=>by rw [hk];exact hK t
theorem Zls {w:World} {b n:Nat} {M:UInt8→UInt8→Option (List UInt8)} (hg:o.guard=none)(m x:Operand)(hop:o.op=Op.lookup 263 m x true)(h:MpT w b n M)(hm:a.eval m= .map (some b))(p q:UInt8)(hx:a.eval x= .agg #[.int .u8 p.toNat,.int .u8 q.toNat]){t:List UInt8} (hk:M p q=some t)
 (hK:wpList Tryz.prog ops Q rest (a.put o.dst (.tuple #[.agg #[.string (B t)],.bool true])) w):
 wpList Tryz.prog ops Q (o::rest) a w:=
 Zlq hg m x hop h hm p q hx fun s hs=>by rw [hs t hk,hk];exact hK
theorem ZrN {w:World} {b n:Nat} {M:UInt8→UInt8→Option (List UInt8)} (hg:o.guard=none)(m x:Operand)(hop:o.op=Op.lookup 263 m x true)(h:MpT w b n M)(hm:a.eval m= .map (some b))(p q:UInt8)(hx:a.eval x= .agg #[.int .u8 p.toNat,.int .u8 q.toNat])(hk:M p q=some [])
 (hK:wpList Tryz.prog ops Q rest (a.put o.dst (.tuple #[.agg #[.string ⟨#[]⟩],.bool true])) w):
 wpList Tryz.prog ops Q (o::rest) a w:=Zls hg m x hop h hm p q hx hk hK
theorem ZjZ (hgd:o.guard=none)(s x:Operand)(ho:o.op= .call {callee:= .builtin .append,args:=#[s,x],argTypes:=#[150,9]}) (base:Nat) (v:Value) (l:List UInt8) (hs:a.eval s=v) (W:World) (y:List UInt8)
 (hown:W.ownsRow base 5 1 v l.length (l.map u8V)) (hbase:base≤W.heap.size) (hlen:l.length≤35184372080000) (hy:y.length≤1000000) (hx:a.eval x= .string (B y))
 (h:∀v' w',Hid (w'.ownsRow base 5 1 v' (l++y).length ((l++y).map u8V))→Below base W w'→wpList Tryz.prog ops Q rest (a.put o.dst v') w'):
 wpList Tryz.prog ops Q (o::rest) a W:=by
 obtain⟨i0,hi,iz0,iz1,iz2⟩:=info_parts Zd5;have hsz:=Zl y;refine Lib.wpList_append_own_string W hgd s x 150 9 ho base 5 i0 Tryz.underlying150 Tryz.underlying9 hi iz0 iz1 iz2 v l.length _ hs hown (B y) hx (by unfold maxLen;omega) (by omega) hbase ?_;intro v' w' h1 h2 _;refine h v' w' (Lib.hid ?_) (Zaa (Below.refl _ W) hown h2 hbase (Nat.le_refl _));rw [List.length_append,List.map_append,←hsz,←Zts];exact h1
end
theorem Zb5 {w:World} {K:Nat} {a b:Value} {T:TypeId} (h:w.heap[K]? =some (.cells #[a,b] T (0,0))):w.cell? ⟨K,0,none⟩=some a∧w.cell? ⟨K,1,none⟩=some b∧w.frozen? ⟨K,0,none⟩=false∧w.frozen? ⟨K,1,none⟩=false:=
 ⟨by rw [cell_of_row _ K 0 _ _ _ h];rfl,by rw [cell_of_row _ K 1 _ _ _ h];rfl,frozen_of_row _ K 0 _ _ h,frozen_of_row _ K 1 _ _ h⟩
def D2Rel (f:UInt8→UInt8→List Int)(l:List UInt8)(w0 W2:World)(v i:Value)(wr:World):Prop:=
 ∃(k n:Nat) (out:List Int) (M:UInt8→UInt8→Option (List UInt8)),k≤l.length∧i= .int .i64 k∧n≤k∧Zy f l 0=ZaQ out (Zy f (l.drop k) k)∧(Zc out).length≤4*k∧
  Hid (wr.ownsRow (w0.heap.size+2) 5 1 v (Zc out).length ((Zc out).map u8V))∧MpT wr (w0.heap.size+1) n M∧Hid (∀x y t,M x y=some t→t=Zc (f x y))∧But (w0.heap.size+1) (w0.heap.size+2) W2 wr
theorem But.grownK {C:Nat} {w w':World} (hg:w.grownBy w' (some C)):But C w.heap.size w w':=
 ⟨hg.os,hg.tape,hg.output,hg.size,fun k hk hc=>hg.block k hk (by simpa using hc)⟩
theorem Zeg {l:List UInt8} (h:l≠[]):(B l).toList.isEmpty=false:=by
 have e:(B l).toList=l:=by rw [ByteArray.toList_eq,ZaA]
 rw [e];cases l with
 |nil=>exact absurd rfl h
 |cons a l=>rfl
theorem Zhy (wr w1:World)(two:Array Value)(t0:Value)(T1 T2:TypeId)(hb1:Below ((wr.alloc (.cells two T1)).drew.alloc (.cells #[t0] T2)).heap.size ((wr.alloc (.cells two T1)).drew.alloc (.cells #[t0] T2)) w1):
 Below wr.heap.size wr w1∧w1.heap[wr.heap.size+1]? =some (.cells #[t0] T2 (0,0)):=by
 have hz:((wr.alloc (.cells two T1)).drew).heap.size=wr.heap.size+1:=by simp [World.drew]
 have e:=heap_alloc_new (wr.alloc (.cells two T1)).drew (.cells #[t0] T2);rw [hz] at e;refine⟨?_,?_⟩
 · exact((((Below.refl _ wr).alloc (Nat.le_refl _) _).trans (Below.refl _ _).drew).alloc (by rw [hz];omega) _).trans (hb1.mono (by simp [World.drew];omega))
 · rw [hb1.block _ (by simp [World.drew]),e]
theorem Zkq (wr:World)(two:Array Value)(t0:Value)(T1 T2:TypeId):Below wr.heap.size wr ((wr.alloc (.cells two T1)).alloc (.cells #[t0] T2)).drew:=
 (((Below.refl _ wr).alloc (Nat.le_refl _) _).alloc (by simp) _).drew
theorem Zkp {K:Nat} (wr w1 w4:World)(two:Array Value)(t0 ts:Value)(T1 T2:TypeId)(hK:K<wr.heap.size)(hb1:Below ((wr.alloc (.cells two T1)).drew.alloc (.cells #[t0] T2)).heap.size ((wr.alloc (.cells two T1)).drew.alloc (.cells #[t0] T2)) w1)
 (hg:(w1.setCell ⟨wr.heap.size+1,0,none⟩ ts).grownBy w4 (some K)):w4.cell? ⟨wr.heap.size+1,0,none⟩=some ts∧But K wr.heap.size wr w4:=by
 obtain⟨h1,h2⟩:=Zhy wr w1 two t0 T1 T2 hb1;have h3:=heap_setCell_same w1 (wr.heap.size+1) 0 _ _ ts h2;have hz:wr.heap.size+1<w1.heap.size:=(Array.getElem?_eq_some_iff.1 h2).1;refine⟨?_,?_⟩
 · have h4:=hg.block (wr.heap.size+1) (by simpa [World.setCell] using hz) (by simp;omega);rw [h3] at h4;rw [cell_of_row _ _ 0 _ _ _ h4];rfl
 · exact((But.of h1).setCell (.inl (by show wr.heap.size≤wr.heap.size+1;omega)) ts).trans ((But.grownK hg).mono (by simp [World.setCell];omega))
def D2V:ZaB→Value
 | .inl ps=> .tuple #[.string (B (Zc ps)),.agg #[.int .i64 0,.int .i64 0]]
 | .inr n=> .tuple #[.string ⟨#[]⟩,.agg #[.int .i64 2,.int .i64 n]]
def Za4 (r:ZaB)(w0:World)(e:Ending)(w':World):Prop:=e= .returned (D2V r)∧Below w0.heap.size w0 w'
theorem Dec2_w (c:Nat)(f:UInt8→UInt8→List Int)(hlen2:∀a b,(Zc (f a b)).length≤8)(l:List UInt8)(hl:l.length≤100000)(w:World)(hG:Grd w)
 (hS:∀(k:Nat) (a b:UInt8),l[k]? =some a→l[k+1]? =some b→128≤a.toNat→∀wx,Below w.heap.size w wx→Calls Tryz.prog 211 #[.int .i64 c,.int .u8 a.toNat,.int .u8 b.toNat] wx fun e w'=>e= .returned (.string (B (Zc (f a b))))∧Below wx.heap.size wx w'):
 Calls Tryz.prog 130 #[.int .i64 c,.string (B l)] w (Za4 (Zy f l 0) w):=by
 have hsz:=Zl l;have HP:Hid (∀r w',Zy f l 0=r→Below w.heap.size w w'→Za4 (Zy f l 0) w (.returned (D2V r)) w'):=Lib.hid fun r w' h1 h2=>by rw [h1];exact⟨rfl,h2⟩
 generalize Za4 (Zy f l 0) w=P at*;obtain⟨i0,hi,iz0,iz1,iz2⟩:=info_parts Zd5;have hmm:=@run_makeMap Tryz.prog;obtain⟨W2,hW2⟩:∃W2,W2=(w.alloc (.cells #[.int .i64 0,.int .i64 0] 62)).alloc (.map #[] 0):=⟨_,rfl⟩
 have hz2:W2.heap.size=w.heap.size+1+1:=by rw [hW2];simp
 have HW2:=Lib.hid hW2;go_enter Tryz.func130,Tryz.ntmps130
 go_wp2_with fail
 rw [←HW2.out];go_loopw [7,8] (fun v i wr=>D2Rel f l w W2 v i wr) (fun _ i _=>l.length - (intOf i).toNat)
 case atStart=>
  refine⟨0,0,[],fun _ _=>none,Nat.zero_le _,rfl,Nat.le_refl _,?_,by simp [Zca],Lib.hid ⟨by simp [Zca],.inl ⟨rfl,rfl⟩⟩,?_,Lib.hid (fun _ _ _ h=>by cases h),But.refl _ _ _⟩
  · rw [List.drop_zero];exact(Zp7 _).symm
  · rw [HW2.out];have:=MpT.made (w.alloc (.cells #[.int .i64 0,.int .i64 0] 62));rw [World.size_alloc] at this;exact this
 case round=>
  obtain⟨k,n,out,M,hk,rfl,hn,he,hol,hown,hM,hMf,hb⟩:=hrel;have hz:=hb.size;have hbw:Below w.heap.size w wr:=by
   have h2:Below w.heap.size w W2:=by rw [HW2.out];exact((Below.refl _ _).alloc (Nat.le_refl _) _).alloc (by simp) _
   exact h2.trans ((hb.mono (by omega)).below (by omega))
  have hG0:Grd wr:=hG.below hbw;have hwr1:w.heap.size<wr.heap.size:=by omega
  have hwr2:w.heap.size+1<wr.heap.size:=by omega
  by_cases hlt:k<l.length
  · have hg:=Zbc l k hlt;by_cases hlow:l[k].toNat<128
    · have hst:=Zp9 f l k hlt hlow;have he2:Zy f l 0=ZaQ (out++[(l[k].toNat:Int)]) (Zy f (l.drop (k+1)) (k+1)):=by rw [he,hst,Zks]
      have He2:=Lib.hid he2;have ee:Hid (Zc (out++[(l[k].toNat:Int)])=Zc out++[l[k]]):=Lib.hid (by rw [ZmW,Zeq (by omega) (by omega)];congr 2;simp);clear he he2 hst;go_wp2_with (at_builtin;refine ZdJ rfl _ _ rfl (w.heap.size+2) u7 (Zc out) rfl wr (l[k]) _ rfl hown.out (by omega) (by omega) rfl ?_;intro v6 w6 HO6 hb6;have HB6:=Lib.hid hb6;clear hb6)
      go_roundw
      case rel=>
       refine⟨k+1,n,_,M,by omega,by go_num,by omega,He2.out,by rw [ee.out,List.length_append,List.length_singleton];omega,Lib.hid (by rw [ee.out];exact HO6.out),hM.same (HB6.out.block _ (by omega)),hMf,hb.trans (But.of HB6.out)⟩
      case measure=>simp [intOf];omega
    · have hh:128≤(l[k].toNat:Int):=by omega
      by_cases hsh:l.length=k+1
      · have hr:=Zqb f l k hlt hlow hsh;have he2:Zy f l 0= .inr k:=by rw [he,hr];rfl
        have He2:=Lib.hid he2;have hF:=hb.block w.heap.size (by omega) (by omega);rw [HW2.out,Below.heap_alloc _ _ _ (by simp),heap_alloc_new] at hF;obtain⟨q0,q1,q2,q3⟩:=Zb5 hF;clear he he2 hr hF hown hM hMf hol;go_wp2_with fail
        refine bodyPost_ret (v:= .tuple #[.string ⟨#[]⟩,.agg #[.int .i64 2,.int .i64 k]]) (by simp [results,Tryz.results130,go_sem,q0,q1]) rfl ?_;exact HP.out (.inr k) _ He2.out ((hbw.setCell (Nat.le_refl _) _).setCell (Nat.le_refl _) _)
      · have hk1:k+1<l.length:=by omega
        have hg1:=Zbc l (k+1) hk1;have hgk:((k:Int)+1).toNat=k+1:=by omega
        have hF:=hb.block w.heap.size (by omega) (by omega);rw [HW2.out,Below.heap_alloc _ _ _ (by simp),heap_alloc_new] at hF;have hkn:¬(l.length:Int) - k<2:=by omega
        have hfe:=hS k (l[k]) (l[k+1]) (List.getElem?_eq_getElem hlt) (List.getElem?_eq_getElem hk1) (by omega);have Hbw:=Lib.hid hbw;have hl8:=hlen2 (l[k]) (l[k+1]);by_cases hf0:f l[k] l[k+1]=[]
        · have hr:=Zqa f l k hk1 hlow hf0;have he2:Zy f l 0= .inr k:=by rw [he,hr];rfl
          have He2:=Lib.hid he2;clear he he2 hr;generalize hx0:l[k]=x at*;generalize hy0:l[k+1]=y at*;have hts:Zc (f x y)=[]:=by rw [hf0];rfl
          have hM1:=((hM.below ((Below.refl _ wr).alloc (Nat.le_refl _) (.cells #[.int .u8 x.toNat,.int .u8 y.toNat] 264))).below ((Below.refl _ _).drew))
          have HF:=Lib.hid hF;rw [hts,show B []=⟨#[]⟩ from rfl] at hfe;clear hS hlen2 hf0 hl8;cases hMx:M x y with
          |none=>
           have hMx':=hMx;clear hMx hMf hown;go_wp2_with fail
           go_region
           go_wp2_with (first
            |(at_lookup;refine mt_no rfl _ _ rfl hM1 rfl x y rfl hMx' ?_;intro t0)
            |(go_at_call 211;refine(hfe _ (((Hbw.out.alloc Hbw.out.size _).drew).alloc (by have:=Hbw.out.size;simp [World.drew];omega) _)).mono ?_;rintro e w1 ⟨rfl,hb1⟩;obtain⟨hc1,hf1⟩:=Zb2 hb1;have HX1:=Lib.hid hb1;have hM3:=(hM.below (Zhy _ _ _ _ _ _ hb1).1).same (ZeI (w:=w1) (k:=wr.heap.size+1) (j:=0) (g:=w.heap.size+1) (by omega) (.string ⟨#[]⟩)))
            |(at_mapUpdate;refine Zlr rfl _ _ _ rfl hM3 rfl x y rfl [] rfl (by omega) ?_;intro w4 hM4 hg4;obtain⟨q4,hbt4⟩:=Zkp _ _ _ _ _ _ _ _ (by omega) HX1.out hg4;have hF4:=Zb5 ((hbt4.block w.heap.size (by omega) (by omega)).trans hF);obtain⟨p0,p1,p2,p3⟩:=hF4;have HT4:=Lib.hid hbt4;have HM4:=Lib.hid hM4;clear hbt4 hM4 hg4))
           refine bodyPost_ret (v:= .tuple #[.string ⟨#[]⟩,.agg #[.int .i64 2,.int .i64 k]]) (by simp [results,Tryz.results130,go_sem,p0,p1]) rfl ?_;exact HP.out (.inr k) _ He2.out ((((hbw.trans ((HT4.out.mono hbw.size).below (by omega))).setCell (Nat.le_refl _) _).setCell (Nat.le_refl _) _))
          |some tt=>
           have htt:tt=[]:=by rw [hMf.out x y tt hMx,hts]
           subst htt;have hMx':=hMx;clear hMx hMf hown hfe;have qF:=Zb5 hF;obtain⟨p0,p1,p2,p3⟩:=qF;go_wp2_with fail
           go_region
           go_wp2_with (first
            |(at_lookup;refine ZrN rfl _ _ rfl hM1 rfl x y rfl hMx' ?_))
           refine bodyPost_ret (v:= .tuple #[.string ⟨#[]⟩,.agg #[.int .i64 2,.int .i64 k]]) (by simp [results,Tryz.results130,go_sem,p0,p1,hwr1]) rfl ?_;exact HP.out (.inr k) _ He2.out (((((hbw.setCell (Nat.le_refl _) _).setCell (Nat.le_refl _) _).alloc (by simp [World.setCell];omega) _).alloc (by simp [World.setCell];omega) _).drew)
        · have hr:=Zqc f l k hk1 hlow hf0;have he2:Zy f l 0=ZaQ (out++f l[k] l[k+1]) (Zy f (l.drop (k+2)) (k+2)):=by rw [he,hr,Zks]
          have hto:Zc (out++f l[k] l[k+1])=Zc out++Zc (f l[k] l[k+1]):=ZgI _ _;have htn:Zc (f l[k] l[k+1])≠[]:=by
           intro h;cases hq:f l[k] l[k+1] with
           |nil=>exact hf0 hq
           |cons p ps=>rw [hq,Za2] at h;exact ZhF p (List.append_eq_nil_iff.1 h).1
          clear he hr hS hlen2;generalize hx0:l[k]=x at*;generalize hy0:l[k+1]=y at*;have Hts:=Lib.hid (show Zc (f x y)=Zc (f x y) from rfl);have hMf2:∀tt,M x y=some tt→tt=Zc (f x y):=fun tt h=>hMf.out x y tt h;generalize hgt:Zc (f x y)=ts at*;have Hgt:=Lib.hid hgt;have He2:=Lib.hid he2;have Hto:=Lib.hid hto;have hts1:(B ts).toList.isEmpty=false:=Zeg htn;clear hgt he2 hto Hts hf0;have hM1:=((hM.below ((Below.refl _ wr).alloc (Nat.le_refl _) (.cells #[.int .u8 x.toNat,.int .u8 y.toNat] 264))).below ((Below.refl _ _).drew))
          cases hMx:M x y with
          |none=>
           have hMx':=hMx;clear hMx hMf2;go_wp2_with fail
           go_region
           go_wp2_with (first
            |(at_lookup;refine mt_no rfl _ _ rfl hM1 rfl x y rfl hMx' ?_;intro t0)
            |(go_at_call 211;refine(hfe _ (((Hbw.out.alloc Hbw.out.size _).drew).alloc (by have:=Hbw.out.size;simp [World.drew];omega) _)).mono ?_;rintro e w1 ⟨rfl,hb1⟩;obtain⟨hc1,hf1⟩:=Zb2 hb1;have HX1:=Lib.hid hb1;have hM3:=(hM.below (Zhy _ _ _ _ _ _ hb1).1).same (ZeI (w:=w1) (k:=wr.heap.size+1) (j:=0) (g:=w.heap.size+1) (by omega) (.string (B ts))))
            |(at_mapUpdate;refine Zlr rfl _ _ _ rfl hM3 rfl x y rfl ts rfl (by omega) ?_;intro w4 hM4 hg4;obtain⟨q4,hbt4⟩:=Zkp _ _ _ _ _ _ _ _ (by omega) HX1.out hg4;have HT4:=Lib.hid hbt4;have HM4:=Lib.hid hM4;have hz4:=hbt4.size;clear hbt4 hM4 hg4)
            |(at_builtin;refine ZjZ rfl _ _ rfl (w.heap.size+2) u7 (Zc out) rfl w4 ts (Zdn hown.out HT4.out (by omega)) (by omega) (by omega) (by omega) rfl ?_;intro v6 w6 HO6 hb6;have HB6:=Lib.hid hb6;clear hb6))
           go_roundw
           case rel=>
            refine⟨k+2,n+1,_,_,by omega,by go_num,by omega,He2.out,by rw [Hto.out,List.length_append];omega,Lib.hid (by rw [Hto.out];exact HO6.out),HM4.out.same (HB6.out.block _ (by omega)),Lib.hid ?_,hb.trans ((HT4.out.mono (by omega)).trans (But.of HB6.out))⟩;intro a b t h;by_cases e:a=x∧b=y
            · simp only [e,and_self,if_true,Option.some.injEq] at h;rw [←h,e.1,e.2];exact Hgt.out.symm
            · simp only [e,if_false] at h;exact hMf.out a b t h
           case measure=>simp [intOf];omega
          |some tt=>
           obtain rfl:=hMf2 tt hMx;have hMx':=hMx;clear hMx hMf2 hfe;go_wp2_with fail
           go_region
           go_wp2_with (first
            |(at_lookup;refine Zls rfl _ _ rfl hM1 rfl x y rfl hMx' ?_)
            |(at_builtin;refine ZjZ rfl _ _ rfl (w.heap.size+2) u7 (Zc out) rfl _ tt (ZE hown.out (Zkq _ _ _ _ _)) (by simp [World.drew];omega) (by omega) (by omega) rfl ?_;intro v6 w6 HO6 hb6;have HB6:=Lib.hid hb6;clear hb6))
           go_roundw
           case rel=>
            have hbd:=Zkq wr #[.int .u8 x.toNat,.int .u8 y.toNat] (.string (B tt)) 264 266;refine⟨k+2,n,_,_,by omega,by go_num,by omega,He2.out,by rw [Hto.out,List.length_append];omega,Lib.hid (by rw [Hto.out];exact HO6.out),(hM.below hbd).same (HB6.out.block _ (by omega)),hMf,hb.trans (But.of ((hbd.mono (by omega)).trans HB6.out))⟩
           case measure=>simp [intOf];omega
  · have hke:k=l.length:=by omega
    subst hke;have hr:=Zp8 f l l.length (Nat.le_refl _);have he2:Zy f l 0= .inl out:=by rw [he,hr];simp [ZaQ]
    have He2:=Lib.hid he2;have hcv:=Ze6 wr hown.out;have hF:=hb.block w.heap.size (by omega) (by omega);rw [HW2.out,Below.heap_alloc _ _ _ (by simp),heap_alloc_new] at hF;obtain⟨q0,q1,q2,q3⟩:=Zb5 hF;clear he he2 hr hF hown hM hMf hol;go_wp2_with fail
    refine bodyPost_ret (v:= .tuple #[.string (B (Zc out)),.agg #[.int .i64 0,.int .i64 0]]) (by simp [results,Tryz.results130,go_sem,q0,q1]) rfl ?_;exact HP.out (.inl out) _ He2.out ((hbw.setCell (Nat.le_refl _) _).setCell (Nat.le_refl _) _)
end Go.Proofs.YtecandjkbbpooaaGreatDoor
namespace Go.Proofs.YtecandjkbbpooaaGreatDoor
open Go Go.RowKit
theorem F2 {w w1:World} {T:TypeId} {a b:Value} (hb:Below (w.alloc (.cells #[a,b] T)).heap.size (w.alloc (.cells #[a,b] T)) w1):w1.heap[w.heap.size]? =some (.cells #[a,b] T (0,0)):=by
 rw [hb.block _ (by simp),heap_alloc_new]
theorem Znn (c:Nat)(hc:c≤3)(l:List UInt8)(hl:l.length≤100000)(w:World)(hG:Grd w):
 Calls Tryz.prog 64 #[.int .i64 c,.string (B l)] w fun e w'=>e= .returned (.tuple #[.string (B (Zc (l.map fun x=>Zby c x.toNat))),.agg #[.int .i64 0,.int .i64 0]])∧Below w.heap.size w w':=by
 have hof:=fun w hT=>ZoL c hc w hT;have hde:=fun{A} {cp} {q} {rs} hL hn w h hT=>Zi2 hc (A:=A) (cp:=cp) (q:=q) (rs:=rs) (B l) hL (by rw [Zl];exact hl) hn w h hT;rw [show tB ((B l).data.toList.map fun x=>Zby c x.toNat)=B (Zc (l.map fun x=>Zby c x.toNat)) by rw [ZaA];rfl] at hde;generalize B (Zc (l.map fun x=>Zby c x.toNat))=R at*;have hT:=hG.tabs;unfold Zbk at hof;rcases(show c=0∨c=1∨c=2∨c=3 by omega) with rfl|rfl|rfl|rfl
 all_goals
  go_enter Tryz.func64,Tryz.ntmps64
  go_wp2_with (first
   |(go_at_call 128;refine(hof _ (ZI hT _)).mono ?_;rintro e w1 ⟨A,cp,rs,rfl,h1,h2,h3,h4,hb1⟩;have T1:=Zaf (ZI hT _) hb1 (Nat.le_refl _);have HF:=Lib.hid (F2 hb1);have HB:=Lib.hid (Ze hb1);have H4:=Lib.hid h4;clear hb1 h4)
   |(go_at_call 129;refine(hde H4.out h2 _ ((h3.below ((Below.refl _ _).alloc (Nat.le_refl _) _)).more (by simp)) (ZI T1 _)).mono ?_;rintro e w2 ⟨rfl,hb2⟩;have hF2:=(Ze hb2).block w.heap.size (Array.getElem?_eq_some_iff.1 HF.out).1;rw [HF.out] at hF2;have hB2:=HB.out.trans ((Ze hb2).mono HB.out.size);obtain⟨q0,q1,q2,q3⟩:=Zb5 hF2;have HF2:=Lib.hid hF2;have HB2:=Lib.hid hB2;clear hb2 hF2 hB2))
  refine bodyPost_ret (v:= .tuple #[.string R,.agg #[.int .i64 0,.int .i64 0]]) (by simp [results,Tryz.results64,go_sem,q0,q1]) rfl ⟨rfl,?_⟩;exact(HB2.out.setCell (Nat.le_refl _) _).setCell (Nat.le_refl _) _
theorem D2V_eq (r:ZaB):∃s e a,D2V r= .tuple #[.string s,.agg #[.int .i64 e,.int .i64 a]]:=by
 cases r with
 |inl ps=>exact⟨_,_,_,rfl⟩
 |inr n=>exact⟨_,_,_,rfl⟩
theorem Zno (c:Nat)(hc:4≤c∧c≤6)(l:List UInt8)(w:World)(hG:Grd w)(r:ZaB)
 (hd:∀wx,Below w.heap.size w wx→Calls Tryz.prog 130 #[.int .i64 c,.string (B l)] wx (Za4 r wx)):
 Calls Tryz.prog 64 #[.int .i64 c,.string (B l)] w (Za4 r w):=by
 unfold Za4 at hd⊢;obtain⟨s,x,a,hr⟩:=D2V_eq r;rw [hr] at hd⊢;rcases(show c=4∨c=5∨c=6 by omega) with rfl|rfl|rfl
 all_goals
  go_enter Tryz.func64,Tryz.ntmps64
  go_wp2_with (go_at_call 130;refine(hd _ ((Below.refl _ w).alloc (Nat.le_refl _) _)).mono ?_;rintro e w1 ⟨rfl,hb1⟩;have HF:=Lib.hid (F2 hb1);obtain⟨q0,q1,q2,q3⟩:=Zb5 HF.out;have HB:=Lib.hid (Ze hb1);clear hb1)
  refine bodyPost_ret (v:= .tuple #[.string s,.agg #[.int .i64 x,.int .i64 a]]) (by simp [results,Tryz.results64,go_sem,q0,q1]) rfl ⟨rfl,?_⟩;exact(HB.out.setCell (Nat.le_refl _) _).setCell (Nat.le_refl _) _
theorem Zub {l:List UInt8} {ps:List Int} (h:Good ⟨l.toArray⟩ ps):Zc ps=l:=by
 have:=h.1;simpa using this.symm
theorem Znp (l:List UInt8)(hl:l.length≤100000)(w:World)(hG:Grd w):
 Calls Tryz.prog 64 #[.int .i64 7,.string (B l)] w (Za4 (Zcl l) w):=by
 have hT:=hG.tabs;rcases Zdx l with⟨ps,h,e⟩|⟨n,h,e⟩
 · rw [e];unfold Za4 D2V;simp only;rw [Zub h];have hck:=fun w hT=>ZgU (B l) ps h (by rw [Zl];omega) w hT;have hbd:=fun w=>ZT 0 0 rfl w;clear h e;go_enter Tryz.func64,Tryz.ntmps64
   go_wp2_with (first
    |(go_at_call 131;refine(hck _ (ZI hT _)).mono ?_;rintro e w1 ⟨rfl,hb1⟩;have HF:=Lib.hid (F2 hb1);have HB:=Lib.hid (Ze hb1);clear hb1)
    |(go_at_call 7;refine(hbd _).mono ?_;rintro e w2 ⟨rfl,hb2⟩;have hF2:=(Ze hb2).block w.heap.size (Array.getElem?_eq_some_iff.1 HF.out).1;rw [HF.out] at hF2;have hB2:=HB.out.trans ((Ze hb2).mono HB.out.size);obtain⟨q0,q1,q2,q3⟩:=Zb5 hF2;have HB2:=Lib.hid hB2;clear hb2 hF2 hB2))
   refine bodyPost_ret (v:= .tuple #[.string (B l),.agg #[.int .i64 0,.int .i64 0]]) (by simp [results,Tryz.results64,go_sem,q0,q1]) rfl ⟨rfl,?_⟩;exact(HB2.out.setCell (Nat.le_refl _) _).setCell (Nat.le_refl _) _
 · rw [e];unfold Za4 D2V;simp only;have hck:=fun w hT=>Znq (B l) n h (by rw [Zl];omega) w hT;have hbd:=fun w=>Zaq 2 n (by decide) w;clear h e;go_enter Tryz.func64,Tryz.ntmps64
   go_wp2_with (first
    |(go_at_call 131;refine(hck _ (ZI hT _)).mono ?_;rintro e w1 ⟨rfl,hb1⟩;have HF:=Lib.hid (F2 hb1);have HB:=Lib.hid (Ze hb1);clear hb1)
    |(go_at_call 7;refine(hbd _).mono ?_;rintro e w2 ⟨rfl,hb2⟩;have hF2:=(Ze hb2).block w.heap.size (Array.getElem?_eq_some_iff.1 HF.out).1;rw [HF.out] at hF2;have hB2:=HB.out.trans ((Ze hb2).mono HB.out.size);obtain⟨q0,q1,q2,q3⟩:=Zb5 hF2;have HB2:=Lib.hid hB2;obtain⟨b0,b1,f0,f1⟩:=Zb5 (F2 hb2);clear hb2 hF2 hB2))
   go_region
   go_wp2_with fail
   refine bodyPost_ret (v:= .tuple #[.string ⟨#[]⟩,.agg #[.int .i64 2,.int .i64 n]]) (by simp [results,Tryz.results64,go_sem,q0,q1]) rfl ⟨rfl,?_⟩;exact((HB2.out.setCell (Nat.le_refl _) _).setCell (Nat.le_refl _) _).drew
theorem Znm (l:List UInt8)(hl:l.length≤100000)(w:World)(hG:Grd w):
 Calls Tryz.prog 64 #[.int .i64 7,.string (B l)] w (Za4 (Zcv 7 l) w):=by
 unfold Zcv;rw [if_neg (by decide),if_neg (by decide),if_pos rfl];exact Znp l hl w hG
end Go.Proofs.YtecandjkbbpooaaGreatDoor
namespace Go.Proofs.YtecandjkbbpooaaGreatDoor
open Go Go.RowKit Go.Maps
theorem ZdF (l:List UInt8)(hl:l.length≤100000)(w:World)(hT:Zk w):Calls Tryz.prog 34 #[.string (B l)] w fun e w'=>e= .returned (.bool (Zbz l))∧Below w.heap.size w w':=by
 unfold Zbz;rcases Zdx l with⟨ps,h,e⟩|⟨n,h,e⟩
 · rw [e];exact Zpe (B l) ps h (by rw [Zl];omega) w hT
 · rw [e];exact Zpd (B l) n h (by rw [Zl];omega) w hT
end Go.Proofs.YtecandjkbbpooaaGreatDoor
namespace Go.Proofs.YtecandjkbbpooaaGreatDoor
open Go Go.RowKit
def ltB:Lt→UInt8
 | .lang=>108
 | .fmt=>102
 | .mime=>122
 | .kind=>107
 | .desc=>100
 | .text=>116
 | .data=>114
def ltN:Lt→List UInt8
 | .lang=>[108,97,110,103,117,97,103,101]
 | .fmt=>[102,111,114,109,97,116]
 | .mime=>[109,105,109,101]
 | .kind=>[107,105,110,100]
 | .desc=>[100,101,115,99,114,105,112,116,105,111,110]
 | .text=>[116,101,120,116]
 | .data=>[100,97,116,97]
def Zm (l:List Lt):List UInt8:=l.map ltB
theorem Zcw (l:List UInt8)(c:List UInt8)(h:l≠c):((B l).toList==c)=false:=by
 rw [ByteArray.toList_eq,ZaA,beq_eq_false_iff_ne];exact h
theorem L2_any (id:List UInt8)(hid:id.length≤100000)(w:World):
 Calls Tryz.prog 194 #[.string (B id)] w fun e w'=>e= .returned (.string (B (Zm (Zd 2 id))))∧w=w':=by
 by_cases h0:id=[84,88,88]
 · subst h0;rw [show Zm (Zd 2 [84,88,88])=[100,116] by decide,show B [84,88,88]=⟨#[84,88,88]⟩ from rfl];go_enter Tryz.func194,Tryz.ntmps194
   go_wp2_with fail
   go_ret
   exact⟨rfl,rfl⟩
 have q0:=Zcw id [84,88,88] h0;by_cases h1:id=[67,79,77]
 · subst h1;rw [show Zm (Zd 2 [67,79,77])=[108,100,116] by decide,show B [67,79,77]=⟨#[67,79,77]⟩ from rfl];go_enter Tryz.func194,Tryz.ntmps194
   go_wp2_with fail
   go_ret
   exact⟨rfl,rfl⟩
 have q1:=Zcw id [67,79,77] h1;by_cases h2:id=[85,76,84]
 · subst h2;rw [show Zm (Zd 2 [85,76,84])=[108,100,116] by decide,show B [85,76,84]=⟨#[85,76,84]⟩ from rfl];go_enter Tryz.func194,Tryz.ntmps194
   go_wp2_with fail
   go_ret
   exact⟨rfl,rfl⟩
 have q2:=Zcw id [85,76,84] h2;by_cases h3:id=[87,88,88]
 · subst h3;rw [show Zm (Zd 2 [87,88,88])=[100,114] by decide,show B [87,88,88]=⟨#[87,88,88]⟩ from rfl];go_enter Tryz.func194,Tryz.ntmps194
   go_wp2_with fail
   go_ret
   exact⟨rfl,rfl⟩
 have q3:=Zcw id [87,88,88] h3;by_cases h4:id=[80,73,67]
 · subst h4;rw [show Zm (Zd 2 [80,73,67])=[102,107,100,114] by decide,show B [80,73,67]=⟨#[80,73,67]⟩ from rfl];go_enter Tryz.func194,Tryz.ntmps194
   go_wp2_with fail
   go_ret
   exact⟨rfl,rfl⟩
 have q4:=Zcw id [80,73,67] h4;have hsz:=Zl id;have hlf:Zd 2 id=if id.length=3∧id.head? =some 84 then [.text] else []:=by
  unfold Zd;simp [h0,h1,h2,h3,h4]
 rw [hlf];clear hlf h0 h1 h2 h3 h4;by_cases hn:id.length=3
 · have hn2:((id.length:Int)==3)=true:=by simp;omega
   have hg:=Zbc id 0 (by omega);have hhd:id.head? =some (id[0]'(by omega)):=by cases id with|nil=>simp at hn|cons a r=>rfl
   by_cases hT:id[0]'(by omega)=84
   · have hT2:((id[0]'(by omega)).toNat:Int)=84:=by rw [hT];rfl
     rw [if_pos ⟨hn,by rw [hhd,hT]⟩,show Zm [.text]=[116] from rfl];clear hT hhd;go_enter Tryz.func194,Tryz.ntmps194
     go_wp2_with fail
     go_ret
     exact⟨rfl,rfl⟩
   · have hT2:(((id[0]'(by omega)).toNat:Int)==84)=false:=by
      rw [beq_eq_false_iff_ne];intro e;exact hT (UInt8.toNat_inj.1 (by show(id[0]'(by omega)).toNat=84;omega))
     rw [if_neg (fun h=>hT (by have:=h.2;rw [hhd] at this;injection this)),show Zm []=[] from rfl];clear hT hhd;go_enter Tryz.func194,Tryz.ntmps194
     go_wp2_with fail
     go_ret
     exact⟨rfl,rfl⟩
 · have hn2:((id.length:Int)==3)=false:=by rw [beq_eq_false_iff_ne];omega
   rw [if_neg (fun h=>hn h.1),show Zm []=[] from rfl];go_enter Tryz.func194,Tryz.ntmps194
   go_wp2_with fail
   go_ret
   exact⟨rfl,rfl⟩
theorem L4_any (id:List UInt8)(hid:id.length≤100000)(w:World):
 Calls Tryz.prog 195 #[.string (B id)] w fun e w'=>e= .returned (.string (B (Zm (Zd 4 id))))∧w=w':=by
 by_cases h0:id=[84,88,88,88]
 · subst h0;rw [show Zm (Zd 4 [84,88,88,88])=[100,116] by decide,show B [84,88,88,88]=⟨#[84,88,88,88]⟩ from rfl];go_enter Tryz.func195,Tryz.ntmps195
   go_wp2_with fail
   go_ret
   exact⟨rfl,rfl⟩
 have q0:=Zcw id [84,88,88,88] h0;by_cases h1:id=[67,79,77,77]
 · subst h1;rw [show Zm (Zd 4 [67,79,77,77])=[108,100,116] by decide,show B [67,79,77,77]=⟨#[67,79,77,77]⟩ from rfl];go_enter Tryz.func195,Tryz.ntmps195
   go_wp2_with fail
   go_ret
   exact⟨rfl,rfl⟩
 have q1:=Zcw id [67,79,77,77] h1;by_cases h2:id=[85,83,76,84]
 · subst h2;rw [show Zm (Zd 4 [85,83,76,84])=[108,100,116] by decide,show B [85,83,76,84]=⟨#[85,83,76,84]⟩ from rfl];go_enter Tryz.func195,Tryz.ntmps195
   go_wp2_with fail
   go_ret
   exact⟨rfl,rfl⟩
 have q2:=Zcw id [85,83,76,84] h2;by_cases h3:id=[87,88,88,88]
 · subst h3;rw [show Zm (Zd 4 [87,88,88,88])=[100,114] by decide,show B [87,88,88,88]=⟨#[87,88,88,88]⟩ from rfl];go_enter Tryz.func195,Tryz.ntmps195
   go_wp2_with fail
   go_ret
   exact⟨rfl,rfl⟩
 have q3:=Zcw id [87,88,88,88] h3;by_cases h4:id=[65,80,73,67]
 · subst h4;rw [show Zm (Zd 4 [65,80,73,67])=[122,107,100,114] by decide,show B [65,80,73,67]=⟨#[65,80,73,67]⟩ from rfl];go_enter Tryz.func195,Tryz.ntmps195
   go_wp2_with fail
   go_ret
   exact⟨rfl,rfl⟩
 have q4:=Zcw id [65,80,73,67] h4;have hsz:=Zl id;have hlf:Zd 4 id=if id.length=4∧id.head? =some 84 then [.text] else []:=by
  unfold Zd;simp [h0,h1,h2,h3,h4]
 rw [hlf];clear hlf h0 h1 h2 h3 h4;by_cases hn:id.length=4
 · have hn2:((id.length:Int)==4)=true:=by simp;omega
   have hg:=Zbc id 0 (by omega);have hhd:id.head? =some (id[0]'(by omega)):=by cases id with|nil=>simp at hn|cons a r=>rfl
   by_cases hT:id[0]'(by omega)=84
   · have hT2:((id[0]'(by omega)).toNat:Int)=84:=by rw [hT];rfl
     rw [if_pos ⟨hn,by rw [hhd,hT]⟩,show Zm [.text]=[116] from rfl];clear hT hhd;go_enter Tryz.func195,Tryz.ntmps195
     go_wp2_with fail
     go_ret
     exact⟨rfl,rfl⟩
   · have hT2:(((id[0]'(by omega)).toNat:Int)==84)=false:=by
      rw [beq_eq_false_iff_ne];intro e;exact hT (UInt8.toNat_inj.1 (by show(id[0]'(by omega)).toNat=84;omega))
     rw [if_neg (fun h=>hT (by have:=h.2;rw [hhd] at this;injection this)),show Zm []=[] from rfl];clear hT hhd;go_enter Tryz.func195,Tryz.ntmps195
     go_wp2_with fail
     go_ret
     exact⟨rfl,rfl⟩
 · have hn2:((id.length:Int)==4)=false:=by rw [beq_eq_false_iff_ne];omega
   rw [if_neg (fun h=>hn h.1),show Zm []=[] from rfl];go_enter Tryz.func195,Tryz.ntmps195
   go_wp2_with fail
   go_ret
   exact⟨rfl,rfl⟩
theorem lay34 (id:List UInt8):Zd 3 id=Zd 4 id:=by unfold Zd;simp
theorem Zgj (v:Nat)(id:List UInt8)(h:v≠2∧v≠3∧v≠4):Zd v id=[]:=by unfold Zd;simp [h]
theorem ZeT (v:Nat)(id:List UInt8)(hid:id.length≤100000)(w:World):
 Calls Tryz.prog 105 #[.int .i64 v,.string (B id)] w fun e w'=>e= .returned (.string (B (Zm (Zd v id))))∧w=w':=by
 have h2:=fun w=>L2_any id hid w;have h4:=fun w=>L4_any id hid w;by_cases e2:v=2
 · subst e2;generalize B (Zm (Zd 2 id))=R at*;go_enter Tryz.func105,Tryz.ntmps105
   go_wp2_with (go_at_call 194;refine(h2 _).mono ?_;rintro e w1 ⟨rfl,rfl⟩)
   go_ret
   exact⟨rfl,rfl⟩
 by_cases e3:v=3
 · subst e3;rw [lay34];generalize B (Zm (Zd 4 id))=R at*;go_enter Tryz.func105,Tryz.ntmps105
   go_wp2_with (go_at_call 195;refine(h4 _).mono ?_;rintro e w1 ⟨rfl,rfl⟩)
   go_ret
   exact⟨rfl,rfl⟩
 by_cases e4:v=4
 · subst e4;generalize B (Zm (Zd 4 id))=R at*;go_enter Tryz.func105,Tryz.ntmps105
   go_wp2_with (go_at_call 195;refine(h4 _).mono ?_;rintro e w1 ⟨rfl,rfl⟩)
   go_ret
   exact⟨rfl,rfl⟩
 rw [Zgj v id ⟨e2,e3,e4⟩,show Zm []=[] from rfl];have q2:((v:Int)==2)=false:=by rw [beq_eq_false_iff_ne];omega
 have q3:((v:Int)==3)=false:=by rw [beq_eq_false_iff_ne];omega
 have q4:((v:Int)==4)=false:=by rw [beq_eq_false_iff_ne];omega
 clear h2 h4;go_enter Tryz.func105,Tryz.ntmps105
 go_wp2_with fail
 go_ret
 exact⟨rfl,rfl⟩
theorem Zea (l:Lt)(w:World):Calls Tryz.prog 106 #[.int .u8 (ltB l).toNat] w fun e w'=>e= .returned (.string (B (ltN l)))∧w=w':=by
 cases l
 all_goals
  rw [show B (ltN _)=_ from rfl];unfold ltB ltN;go_enter Tryz.func106,Tryz.ntmps106
  go_wp2_with fail
  go_ret
  exact⟨rfl,rfl⟩
theorem Zof (v enc:Nat)(he:enc<256)(w:World):Calls Tryz.prog 107 #[.int .i64 v,.int .u8 enc] w fun e w'=>e= .returned (.bool (Zdj v enc))∧w=w':=by
 unfold Zdj;by_cases h1:enc≤1
 · have e1:(enc:Int)≤1:=by omega
   rw [decide_eq_true h1,Bool.true_or];go_enter Tryz.func107,Tryz.ntmps107
   go_wp2_with fail
   go_ret
   exact⟨rfl,rfl⟩
 · have e1:¬(enc:Int)≤1:=by omega
   rw [decide_eq_false h1,Bool.false_or];by_cases h4:v=4
   · subst h4;by_cases h3:enc≤3
     · have e3:(enc:Int)≤3:=by omega
       rw [decide_eq_true h3];go_enter Tryz.func107,Tryz.ntmps107
       go_wp2_with fail
       go_ret
       exact⟨rfl,rfl⟩
     · have e3:¬(enc:Int)≤3:=by omega
       rw [decide_eq_false h3];go_enter Tryz.func107,Tryz.ntmps107
       go_wp2_with fail
       go_ret
       exact⟨rfl,rfl⟩
   · have q4:((v:Int)==4)=false:=by rw [beq_eq_false_iff_ne];omega
     rw [beq_eq_false_iff_ne.2 h4,Bool.false_and];go_enter Tryz.func107,Tryz.ntmps107
     go_wp2_with fail
     go_ret
     exact⟨rfl,rfl⟩
def Zb9 (p:List UInt8)(o:Option (List UInt8×List UInt8)):Option (List UInt8×List UInt8):=o.map fun q=>(p++q.1,q.2)
theorem Zmb (o:Option (List UInt8×List UInt8)):Zb9 [] o=o:=by cases o<;>rfl
theorem Zmc (a b:List UInt8)(o:Option (List UInt8×List UInt8)):Zb9 a (Zb9 b o)=Zb9 (a++b) o:=by cases o<;>simp [Zb9]
theorem ZpZ (l:List UInt8)(k:Nat)(h:k<l.length)(h0:l[k]=0):ZaC (l.drop k)=some ([],l.drop (k+1)):=by
 rw [List.drop_eq_getElem_cons h,ZaC,if_pos h0]
theorem Zp0 (l:List UInt8)(k:Nat)(h:k<l.length)(h0:l[k]≠0):ZaC (l.drop k)=Zb9 [l[k]] (ZaC (l.drop (k+1))):=by
 rw [List.drop_eq_getElem_cons h,ZaC,if_neg h0];cases ZaC (l.drop (k+1))<;>rfl
theorem Zp2 (l:List UInt8)(k:Nat)(h:k+1<l.length)(h0:l[k]=0∧l[k+1]=0):Z6 (l.drop k)=some ([],l.drop (k+2)):=by
 rw [List.drop_eq_getElem_cons (by omega),List.drop_eq_getElem_cons h,Z6,if_pos h0]
theorem Zp3 (l:List UInt8)(k:Nat)(h:k+1<l.length)(h0:¬(l[k]=0∧l[k+1]=0)):Z6 (l.drop k)=Zb9 [l[k],l[k+1]] (Z6 (l.drop (k+2))):=by
 rw [List.drop_eq_getElem_cons (by omega),List.drop_eq_getElem_cons h,Z6,if_neg h0];cases Z6 (l.drop (k+2))<;>rfl
theorem Zp1 (l:List UInt8)(k:Nat)(h:l.length≤k+1):Z6 (l.drop k)=none:=by
 have hl:(l.drop k).length≤1:=by simp;omega
 match l.drop k,hl with
 |[],_=>rfl
 |[x],_=>rfl
theorem ZiD (l:List UInt8)(n k:Nat)(hn:n≤k)(h:k<l.length):(l.drop n).take (k+1 - n)=(l.drop n).take (k - n)++[l[k]]:=by
 rw [show k+1 - n=(k - n)+1 by omega,List.take_succ_eq_append_getElem (by simp;omega)];congr 2
 rw [List.getElem_drop];congr 1
 omega
def UtRel (s:InS)(i:Value)(cut:List UInt8→Option (List UInt8×List UInt8)):Prop:=∃k:Nat,s.n≤k∧k≤s.t.length∧i= .int .i64 k∧cut (s.t.drop s.n)=Zb9 ((s.t.drop s.n).take (k - s.n)) (cut (s.t.drop k))
theorem ZjJ (K:Nat)(s:InS)(w:World)(h:InAt w K s):
 Calls Tryz.prog 196 #[.pointer (some ⟨K,0,none⟩),.string ⟨#[0]⟩] w (Zf K w (.string (B (s.until 1).1)) (s.until 1).2):=by
 generalize hP:Zf K w (.string (B (s.until 1).1)) (s.until 1).2=P at*;have H:=Lib.hid h;by_cases h0:s.e=0
 · have hr:=fun w h=>Zde K s w h h0;have hsh:=fun w h=>Ze1 K s w h;unfold Zf at hsh;have hs:s.until 1=match ZaC (s.t.drop s.n) with
    |none=>([],s.short)
    |some q=>(q.1,{s with n:=s.n+q.1.length+1}):=by
    unfold InS.until ZcQ;rw [if_neg (by omega)];rfl
   have Hs:=Lib.hid hs;obtain⟨c0,c1,c2,c3,c4⟩:=h.get;have f1:=h.free 1;have hlt:=h.lt;have hfi:=h.fits;have hle:=h.len;have hsz:=Zl s.t;clear hs h h0 c2 c3 c4;go_enter Tryz.func196,Tryz.ntmps196
   go_wp2_with (go_at_call 114;refine(hr _ H.out).mono ?_;rintro e w1 ⟨rfl,hb1⟩;obtain⟨hc,hf⟩:=Zb2 hb1)
   have d0:=(hc K 0 hlt).trans c0;have d1:=(hc K 1 hlt).trans c1;have e1:=(hf K 1 hlt).trans f1;have HB:=Lib.hid hb1;clear hc hf c0 c1 f1 hb1;go_loop [6] (fun i=>UtRel s i ZaC) (fun i=>s.t.length+1 - (intOf i).toNat)
   case atStart=>exact⟨s.n,Nat.le_refl _,hfi,rfl,by simp [Zmb]⟩
   case round=>
    obtain⟨k,hk0,hk,rfl,he⟩:=hrel;by_cases hlt2:k<s.t.length
    · have hex:(B s.t).extract k (k+1)=B [s.t[k]]:=by
       rw [ZcJ,show k+1 - k=1 by omega,List.drop_eq_getElem_cons hlt2];rfl
      have hkk:((k:Int)+1).toNat=k+1:=by omega
      have hkl:(k:Int)≤(s.t.length:Int) - 1:=by omega
      by_cases hz:s.t[k]=0
      · have hq:((B [s.t[k]]).toList==[0])=true:=by rw [ByteArray.toList_eq,ZaA,hz];rfl
        have hu:s.until 1=((s.t.drop s.n).take (k - s.n),{s with n:=k+1}):=by
         rw [Hs.out,he,ZpZ _ k hlt2 hz];simp only [Zb9,Option.map_some,List.append_nil];congr 1
         have:((s.t.drop s.n).take (k - s.n)).length=k - s.n:=by simp;omega
         rw [this,show s.n+(k - s.n)+1=k+1 by omega]
        have Hu:=Lib.hid hu;clear he hz hu;generalize s.t[k]=x at*;go_wp2_with fail
        go_quiet (fail)
        go_wp2_with fail
        show P (.returned (.string ((B s.t).extract s.n k))) _
        rw [ZcJ,←hP,Hu.out];exact⟨rfl,((H.out.below HB.out).drewN _).nextZ (k+1) ((k:Int)+1) (by omega) (by omega),((But.of (below_drewN HB.out _))).setCell (p:=⟨K,1,none⟩) (.inr rfl) _⟩
      · have hq:((B [s.t[k]]).toList==[0])=false:=by rw [ByteArray.toList_eq,ZaA,beq_eq_false_iff_ne];intro e;simp only [List.cons.injEq,and_true] at e;exact hz e
        have he2:ZaC (s.t.drop s.n)=Zb9 ((s.t.drop s.n).take (k+1 - s.n)) (ZaC (s.t.drop (k+1))):=by
         rw [he,Zp0 _ k hlt2 hz,Zmc,ZiD s.t s.n k hk0 hlt2]
        have He2:=Lib.hid he2;clear he he2 hz;generalize s.t[k]=x at*;go_wp2_with fail
        go_round
        case rel=>exact⟨k+1,by omega,by omega,by go_num,He2.out⟩
        case measure=>simp [intOf];omega
    · have hkl:¬(k:Int)≤(s.t.length:Int) - 1:=by omega
      have hu:s.until 1=([],s.short):=by
       have:ZaC (s.t.drop s.n)=none:=by rw [he,show s.t.drop k=[] from List.drop_of_length_le (by omega)];rfl
       rw [Hs.out,this]
      have Hu:=Lib.hid hu;clear he hu;go_wp2_with (go_at_call 116;refine(hsh _ (H.out.below HB.out)).mono ?_;rintro e w2 ⟨rfl,h2,hb2⟩)
      show P (.returned (.string ⟨#[]⟩)) _
      rw [←hP,Hu.out];exact⟨rfl,h2,(But.of HB.out).trans (hb2.mono HB.out.size)⟩
 · have hr:=fun w h=>Zdd K s w h h0;have hs:s.until 1=([],s):=by unfold InS.until;rw [if_pos h0]
   have Hs:=Lib.hid hs;clear hs h h0;go_enter Tryz.func196,Tryz.ntmps196
   go_wp2_with (go_at_call 114;refine(hr _ H.out).mono ?_;rintro e w1 ⟨rfl,hb1⟩)
   show P (.returned (.string ⟨#[]⟩)) _
   rw [←hP,Hs.out];exact⟨rfl,H.out.below hb1,.of hb1⟩
theorem Until2 (K:Nat)(s:InS)(w:World)(h:InAt w K s):
 Calls Tryz.prog 196 #[.pointer (some ⟨K,0,none⟩),.string ⟨#[0,0]⟩] w (Zf K w (.string (B (s.until 2).1)) (s.until 2).2):=by
 generalize hP:Zf K w (.string (B (s.until 2).1)) (s.until 2).2=P at*;have H:=Lib.hid h;by_cases h0:s.e=0
 · have hr:=fun w h=>Zde K s w h h0;have hsh:=fun w h=>Ze1 K s w h;unfold Zf at hsh;have hs:s.until 2=match Z6 (s.t.drop s.n) with
    |none=>([],s.short)
    |some q=>(q.1,{s with n:=s.n+q.1.length+2}):=by
    unfold InS.until ZcQ;rw [if_neg (by omega)];rfl
   have Hs:=Lib.hid hs;obtain⟨c0,c1,c2,c3,c4⟩:=h.get;have f1:=h.free 1;have hlt:=h.lt;have hfi:=h.fits;have hle:=h.len;have hsz:=Zl s.t;clear hs h h0 c2 c3 c4;go_enter Tryz.func196,Tryz.ntmps196
   go_wp2_with (go_at_call 114;refine(hr _ H.out).mono ?_;rintro e w1 ⟨rfl,hb1⟩;obtain⟨hc,hf⟩:=Zb2 hb1)
   have d0:=(hc K 0 hlt).trans c0;have d1:=(hc K 1 hlt).trans c1;have e1:=(hf K 1 hlt).trans f1;have HB:=Lib.hid hb1;clear hc hf c0 c1 f1 hb1;go_loop [6] (fun i=>UtRel s i Z6) (fun i=>s.t.length+1 - (intOf i).toNat)
   case atStart=>exact⟨s.n,Nat.le_refl _,hfi,rfl,by simp [Zmb]⟩
   case round=>
    obtain⟨k,hk0,hk,rfl,he⟩:=hrel;by_cases hlt2:k+1<s.t.length
    · have hex:(B s.t).extract k (k+2)=B [s.t[k],s.t[k+1]]:=by
       rw [ZcJ,show k+2 - k=2 by omega,List.drop_eq_getElem_cons (show k<s.t.length by omega),List.drop_eq_getElem_cons hlt2];rfl
      have hkk:((k:Int)+2).toNat=k+2:=by omega
      have hkl:(k:Int)≤(s.t.length:Int) - 2:=by omega
      by_cases hz:s.t[k]=0∧s.t[k+1]=0
      · have hq:((B [s.t[k],s.t[k+1]]).toList==[0,0])=true:=by rw [ByteArray.toList_eq,ZaA,hz.1,hz.2];rfl
        have hu:s.until 2=((s.t.drop s.n).take (k - s.n),{s with n:=k+2}):=by
         rw [Hs.out,he,Zp2 _ k hlt2 hz];simp only [Zb9,Option.map_some,List.append_nil];congr 1
         have:((s.t.drop s.n).take (k - s.n)).length=k - s.n:=by simp;omega
         rw [this,show s.n+(k - s.n)+2=k+2 by omega]
        have Hu:=Lib.hid hu;clear he hz hu;generalize s.t[k]=x at*;generalize s.t[k+1]=y at*;go_wp2_with fail
        go_quiet (fail)
        go_wp2_with fail
        show P (.returned (.string ((B s.t).extract s.n k))) _
        rw [ZcJ,←hP,Hu.out];exact⟨rfl,((H.out.below HB.out).drewN _).nextZ (k+2) ((k:Int)+2) (by omega) (by omega),((But.of (below_drewN HB.out _))).setCell (p:=⟨K,1,none⟩) (.inr rfl) _⟩
      · have hq:((B [s.t[k],s.t[k+1]]).toList==[0,0])=false:=by rw [ByteArray.toList_eq,ZaA,beq_eq_false_iff_ne];intro e;simp only [List.cons.injEq,and_true] at e;exact hz e
        have he2:Z6 (s.t.drop s.n)=Zb9 ((s.t.drop s.n).take (k+2 - s.n)) (Z6 (s.t.drop (k+2))):=by
         rw [he,Zp3 _ k hlt2 hz,Zmc,show k+2 - s.n=k+1+1 - s.n by omega,ZiD s.t s.n (k+1) (by omega) hlt2,ZiD s.t s.n k hk0 (by omega),List.append_assoc];rfl
        have He2:=Lib.hid he2;clear he he2 hz;generalize s.t[k]=x at*;generalize s.t[k+1]=y at*;go_wp2_with fail
        go_round
        case rel=>exact⟨k+2,by omega,by omega,by go_num,He2.out⟩
        case measure=>simp [intOf];omega
    · have hkl:¬(k:Int)≤(s.t.length:Int) - 2:=by omega
      have hu:s.until 2=([],s.short):=by
       have:Z6 (s.t.drop s.n)=none:=by rw [he,Zp1 _ k (by omega)];rfl
       rw [Hs.out,this]
      have Hu:=Lib.hid hu;clear he hu;go_wp2_with (go_at_call 116;refine(hsh _ (H.out.below HB.out)).mono ?_;rintro e w2 ⟨rfl,h2,hb2⟩)
      show P (.returned (.string ⟨#[]⟩)) _
      rw [←hP,Hu.out];exact⟨rfl,h2,(But.of HB.out).trans (hb2.mono HB.out.size)⟩
 · have hr:=fun w h=>Zdd K s w h h0;have hs:s.until 2=([],s):=by unfold InS.until;rw [if_pos h0]
   have Hs:=Lib.hid hs;clear hs h h0;go_enter Tryz.func196,Tryz.ntmps196
   go_wp2_with (go_at_call 114;refine(hr _ H.out).mono ?_;rintro e w1 ⟨rfl,hb1⟩)
   show P (.returned (.string ⟨#[]⟩)) _
   rw [←hP,Hs.out];exact⟨rfl,H.out.below hb1,.of hb1⟩
end Go.Proofs.YtecandjkbbpooaaGreatDoor
