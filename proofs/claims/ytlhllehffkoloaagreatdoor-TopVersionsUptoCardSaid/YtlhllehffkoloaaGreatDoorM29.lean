/- Lemmas for TopVersions; conditions: as each says. -/
import Derived.Lib.AppendStr
import Derived.Lib.ConvBytes
import Derived.Test.YtlhllehffkoloaaGreatDoorM17
import Derived.Test.YtlhllehffkoloaaGreatDoorM22
import Derived.Test.YtlhllehffkoloaaGreatDoorM27
import Derived.Test.YtlhllehffkoloaaGreatDoorM28
set_option linter.unusedVariables false
set_option linter.unusedSimpArgs false
set_option maxRecDepth 100000
set_option maxHeartbeats 4000000
namespace Go.Proofs.YtlhllehffkoloaaGreatDoor
open Go Go.RowKit Go.Maps
structure Grd (w:World):Prop where
 tabs:Zk w
 db:DB w
 ml:ML w
theorem Grd.below {w w':World} (h:Grd w)(hb:Below w.heap.size w w'):Grd w':=⟨Zak h.tabs hb (Nat.le_refl _),Zex h.db hb (Nat.le_refl _),Zez h.ml hb (Nat.le_refl _)⟩
theorem Grd.alloc {w:World} (h:Grd w)(o:Obj):Grd (w.alloc o):=h.below ((Below.refl _ _).alloc (Nat.le_refl _) _)
theorem Zon (p:Int):Zc [p]=Lib.encodeRune p:=by simp [Zc]
theorem ZoO (a b:UInt8)(w:World):
 Calls Tryz.prog 274 #[.int .u8 a.toNat,.int .u8 b.toNat] w fun e w'=>∃z,e= .returned (.tuple #[.string (B (Zc (ZaJ a.toNat b.toNat))),.bool z])∧Below w.heap.size w w':=by
 have ha:=a.toNat_lt;have hb:=b.toNat_lt;refine(ZqC a.toNat b.toNat (by omega) (by omega) w).mono ?_;rintro e w' ⟨rfl,h⟩;exact⟨_,rfl,h⟩
theorem ZoW (c:Nat)(hc:4≤c∧c≤6)(a b:UInt8)(w:World)(hD:DB w):
 Calls Tryz.prog 220 #[.int .i64 c,.int .u8 a.toNat,.int .u8 b.toNat] w fun e w'=>e= .returned (.string (B (Zc (sg2 c a b))))∧Below w.heap.size w w':=by
 have ha:=a.toNat_lt;have hb:=b.toNat_lt;by_cases h4:c=4
 · subst h4;have hs:sg2 4 a b=if Zcv a b≠0∧Zi (Zcv a b)=true then [Zcv a b] else []:=by unfold sg2;rw [if_pos rfl]
   have hsg:=fun w hD=>ZkJ (Zoy a b) (by omega) (by omega) w hD;rw [hs];generalize Zcv a b=p at*;clear hs;by_cases h0:p=0
   · subst h0;go_enter Tryz.func220,Tryz.ntmps220
     go_wp2_with (go_at_call 272;refine(hsg _ hD).mono ?_;rintro e w1 ⟨rfl,hb1⟩)
     go_ret
     exact⟨rfl,hb1⟩
   · have e1:(p !=0)=true:=by simpa using h0
     have e2:decide (p≠0)=true:=by simpa using h0
     by_cases hsc:Zi p=true
     · have ht:=fun c w=>Zgo p hsc c w;rw [if_pos ⟨h0,hsc⟩,Zon];go_enter Tryz.func220,Tryz.ntmps220
       go_wp2_with (first|(go_at_call 272;refine(hsg _ hD).mono ?_;rintro e w1 ⟨rfl,hb1⟩)|(go_at_call 275;refine(ht _ _).mono ?_;rintro e w2 ⟨rfl,hb2⟩))
       go_ret
       exact⟨rfl,hb1.trans ((Zd hb2).mono hb1.size)⟩
     · have ht:=fun c w=>ZqW p (by simpa using hsc) c w;rw [if_neg (fun h=>hsc h.2)];go_enter Tryz.func220,Tryz.ntmps220
       go_wp2_with (first|(go_at_call 272;refine(hsg _ hD).mono ?_;rintro e w1 ⟨rfl,hb1⟩)|(go_at_call 275;refine(ht _ _).mono ?_;rintro e w2 ⟨rfl,rfl⟩))
       go_ret
       exact⟨rfl,hb1.alloc (by have:=hb1.size;omega) _⟩
 · by_cases h5:c=5
   · subst h5;have hs:sg2 5 a b=if ZaE ((a.toNat*256+b.toNat:Nat):Int)=0 then [] else [ZaE ((a.toNat*256+b.toNat:Nat):Int)]:=by unfold sg2;rw [if_neg (by decide),if_pos rfl]
     have hsg:=fun w=>ZpF a b w;have hsc:=Ztp ((a.toNat*256+b.toNat:Nat):Int);rw [hs];generalize ZaE ((a.toNat*256+b.toNat:Nat):Int)=p at*;clear hs;by_cases h0:p=0
     · subst h0;go_enter Tryz.func220,Tryz.ntmps220
       go_wp2_with (go_at_call 273;refine(hsg _).mono ?_;rintro e w1 ⟨rfl,hb1⟩)
       go_ret
       exact⟨rfl,hb1⟩
     · have e2:decide (p≠0)=true:=by simpa using h0
       rw [e2] at hsg;have ht:=fun c w=>Zgo p (hsc h0) c w;rw [if_neg h0,Zon];clear hsc e2;go_enter Tryz.func220,Tryz.ntmps220
       go_wp2_with (first|(go_at_call 273;refine(hsg _).mono ?_;rintro e w1 ⟨rfl,hb1⟩)|(go_at_call 275;refine(ht _ _).mono ?_;rintro e w2 ⟨rfl,hb2⟩))
       go_ret
       exact⟨rfl,hb1.trans ((Zd hb2).mono hb1.size)⟩
   · obtain rfl:c=6:=by omega
     have hs:sg2 6 a b=ZaJ a.toNat b.toNat:=by unfold sg2;rw [if_neg (by decide),if_neg (by decide)]
     have hsg:=fun w=>ZoO a b w;rw [hs];clear hs;go_enter Tryz.func220,Tryz.ntmps220
     go_wp2_with (go_at_call 274;refine(hsg _).mono ?_;rintro e w1 ⟨z,rfl,hb1⟩)
     go_ret
     exact⟨rfl,hb1⟩
theorem Zvu (l:List UInt8):Lib.strCells (B l)=l.map u8V:=by
 simp [Lib.strCells,B,u8V]
theorem MpT.same {w w':World} {b n:Nat} {M:UInt8→UInt8→Option (List UInt8)} (h:MpT w b n M)(e:w'.heap[b]? =w.heap[b]?):MpT w' b n M:=by
 obtain⟨D,⟨es,cl,h1,h2⟩,h3⟩:=h;exact⟨D,⟨es,cl,e.trans h1,h2⟩,h3⟩
section
variable {ops:Array Oper} {rest:List Oper} {o:Oper} {a:Act} {Q:Exit→Act→World→Prop}
theorem mt_no {w:World} {b n:Nat} {M:UInt8→UInt8→Option (List UInt8)} (hg:o.guard=none)(m x:Operand)(hop:o.op=Op.lookup 261 m x true)(h:MpT w b n M)(hm:a.eval m= .map (some b))(p q:UInt8)(hx:a.eval x= .agg #[.int .u8 p.toNat,.int .u8 q.toNat])(hk:M p q=none)
 (hK:∀t:List UInt8,wpList Tryz.prog ops Q rest (a.put o.dst (.tuple #[.agg #[.string (B t)],.bool false])) w):
 wpList Tryz.prog ops Q (o::rest) a w:=
 ZmW hg m x hop h hm p q hx fun t _=>by rw [hk];exact hK t
theorem ZmY {w:World} {b n:Nat} {M:UInt8→UInt8→Option (List UInt8)} (hg:o.guard=none)(m x:Operand)(hop:o.op=Op.lookup 261 m x true)(h:MpT w b n M)(hm:a.eval m= .map (some b))(p q:UInt8)(hx:a.eval x= .agg #[.int .u8 p.toNat,.int .u8 q.toNat]){t:List UInt8} (hk:M p q=some t)
 (hK:wpList Tryz.prog ops Q rest (a.put o.dst (.tuple #[.agg #[.string (B t)],.bool true])) w):
 wpList Tryz.prog ops Q (o::rest) a w:=
 ZmW hg m x hop h hm p q hx fun s hs=>by rw [hs t hk,hk];exact hK
theorem ZtO {w:World} {b n:Nat} {M:UInt8→UInt8→Option (List UInt8)} (hg:o.guard=none)(m x:Operand)(hop:o.op=Op.lookup 261 m x true)(h:MpT w b n M)(hm:a.eval m= .map (some b))(p q:UInt8)(hx:a.eval x= .agg #[.int .u8 p.toNat,.int .u8 q.toNat])(hk:M p q=some [])
 (hK:wpList Tryz.prog ops Q rest (a.put o.dst (.tuple #[.agg #[.string ⟨#[]⟩],.bool true])) w):
 wpList Tryz.prog ops Q (o::rest) a w:=ZmY hg m x hop h hm p q hx hk hK
theorem Zk7 (hgd:o.guard=none)(s x:Operand)(ho:o.op= .call {callee:= .builtin .append,args:=#[s,x],argTypes:=#[105,9]}) (base:Nat) (v:Value) (l:List UInt8) (hs:a.eval s=v) (W:World) (y:List UInt8)
 (hown:W.ownsRow base 5 1 v l.length (l.map u8V)) (hbase:base≤W.heap.size) (hlen:l.length≤35184372080000) (hy:y.length≤1000000) (hx:a.eval x= .string (B y))
 (h:∀v' w',Hid (w'.ownsRow base 5 1 v' (l++y).length ((l++y).map u8V))→Below base W w'→wpList Tryz.prog ops Q rest (a.put o.dst v') w'):
 wpList Tryz.prog ops Q (o::rest) a W:=by
 obtain⟨i0,hi,iz0,iz1,iz2⟩:=info_parts Zet;have hsz:=Zn y;refine Lib.wpList_append_own_string W hgd s x 105 9 ho base 5 i0 Tryz.underlying105 Tryz.underlying9 hi iz0 iz1 iz2 v l.length _ hs hown (B y) hx (by unfold maxLen;omega) (by omega) hbase ?_;intro v' w' h1 h2 _;refine h v' w' (Lib.hid ?_) (Z7 (Below.refl _ W) hown h2 hbase (Nat.le_refl _));rw [List.length_append,List.map_append,←hsz,←Zvu];exact h1
end
theorem Zb6 {w:World} {K:Nat} {a b:Value} {T:TypeId} (h:w.heap[K]? =some (.cells #[a,b] T (0,0))):w.cell? ⟨K,0,none⟩=some a∧w.cell? ⟨K,1,none⟩=some b∧w.frozen? ⟨K,0,none⟩=false∧w.frozen? ⟨K,1,none⟩=false:=
 ⟨by rw [cell_of_row _ K 0 _ _ _ h];rfl,by rw [cell_of_row _ K 1 _ _ _ h];rfl,frozen_of_row _ K 0 _ _ h,frozen_of_row _ K 1 _ _ h⟩
def D2Rel (f:UInt8→UInt8→List Int)(l:List UInt8)(w0 W2:World)(v i:Value)(wr:World):Prop:=
 ∃(k n:Nat) (out:List Int) (M:UInt8→UInt8→Option (List UInt8)),k≤l.length∧i= .int .i64 k∧n≤k∧Zu f l 0=ZaT out (Zu f (l.drop k) k)∧(Zc out).length≤4*k∧
  Hid (wr.ownsRow (w0.heap.size+2) 5 1 v (Zc out).length ((Zc out).map u8V))∧MpT wr (w0.heap.size+1) n M∧Hid (∀x y t,M x y=some t→t=Zc (f x y))∧But (w0.heap.size+1) (w0.heap.size+2) W2 wr
theorem But.grownK {C:Nat} {w w':World} (hg:w.grownBy w' (some C)):But C w.heap.size w w':=
 ⟨hg.os,hg.tape,hg.output,hg.size,fun k hk hc=>hg.block k hk (by simpa using hc)⟩
theorem Zft {l:List UInt8} (h:l≠[]):(B l).toList.isEmpty=false:=by
 have e:(B l).toList=l:=by rw [ByteArray.toList_eq,Za5]
 rw [e];cases l with
 |nil=>exact absurd rfl h
 |cons a l=>rfl
theorem Zij (wr w1:World)(two:Array Value)(t0:Value)(T1 T2:TypeId)(hb1:Below ((wr.alloc (.cells two T1)).drew.alloc (.cells #[t0] T2)).heap.size ((wr.alloc (.cells two T1)).drew.alloc (.cells #[t0] T2)) w1):
 Below wr.heap.size wr w1∧w1.heap[wr.heap.size+1]? =some (.cells #[t0] T2 (0,0)):=by
 have hz:((wr.alloc (.cells two T1)).drew).heap.size=wr.heap.size+1:=by simp [World.drew]
 have e:=heap_alloc_new (wr.alloc (.cells two T1)).drew (.cells #[t0] T2);rw [hz] at e;refine⟨?_,?_⟩
 · exact((((Below.refl _ wr).alloc (Nat.le_refl _) _).trans (Below.refl _ _).drew).alloc (by rw [hz];omega) _).trans (hb1.mono (by simp [World.drew];omega))
 · rw [hb1.block _ (by simp [World.drew]),e]
theorem ZlE (wr:World)(two:Array Value)(t0:Value)(T1 T2:TypeId):Below wr.heap.size wr ((wr.alloc (.cells two T1)).alloc (.cells #[t0] T2)).drew:=
 (((Below.refl _ wr).alloc (Nat.le_refl _) _).alloc (by simp) _).drew
theorem ZlD {K:Nat} (wr w1 w4:World)(two:Array Value)(t0 ts:Value)(T1 T2:TypeId)(hK:K<wr.heap.size)(hb1:Below ((wr.alloc (.cells two T1)).drew.alloc (.cells #[t0] T2)).heap.size ((wr.alloc (.cells two T1)).drew.alloc (.cells #[t0] T2)) w1)
 (hg:(w1.setCell ⟨wr.heap.size+1,0,none⟩ ts).grownBy w4 (some K)):w4.cell? ⟨wr.heap.size+1,0,none⟩=some ts∧But K wr.heap.size wr w4:=by
 obtain⟨h1,h2⟩:=Zij wr w1 two t0 T1 T2 hb1;have h3:=heap_setCell_same w1 (wr.heap.size+1) 0 _ _ ts h2;have hz:wr.heap.size+1<w1.heap.size:=(Array.getElem?_eq_some_iff.1 h2).1;refine⟨?_,?_⟩
 · have h4:=hg.block (wr.heap.size+1) (by simpa [World.setCell] using hz) (by simp;omega);rw [h3] at h4;rw [cell_of_row _ _ 0 _ _ _ h4];rfl
 · exact((But.of h1).setCell (.inl (by show wr.heap.size≤wr.heap.size+1;omega)) ts).trans ((But.grownK hg).mono (by simp [World.setCell];omega))
def D2V:ZaR→Value
 | .inl ps=> .tuple #[.string (B (Zc ps)),.agg #[.int .i64 0,.int .i64 0]]
 | .inr n=> .tuple #[.string ⟨#[]⟩,.agg #[.int .i64 2,.int .i64 n]]
def Za6 (r:ZaR)(w0:World)(e:Ending)(w':World):Prop:=e= .returned (D2V r)∧Below w0.heap.size w0 w'
theorem Zo3 (c:Nat)(hc:4≤c∧c≤6)(l:List UInt8)(hl:l.length≤100000)(w:World)(hG:Grd w):
 Calls Tryz.prog 144 #[.int .i64 c,.string (B l)] w (Za6 (Zu (sg2 c) l 0) w):=by
 have hsz:=Zn l;have hsg:=fun a b w hD=>ZoW c hc a b w hD;have hlen2:∀a b,(Zc (sg2 c a b)).length≤8:=fun a b=>by
  have h1:=Zvj c a b;have h2:=(Zct (sg2 c a b)).2;omega
 generalize sg2 c=f at*;have HP:Hid (∀r w',Zu f l 0=r→Below w.heap.size w w'→Za6 (Zu f l 0) w (.returned (D2V r)) w'):=Lib.hid fun r w' h1 h2=>by rw [h1];exact⟨rfl,h2⟩
 generalize Za6 (Zu f l 0) w=P at*;obtain⟨i0,hi,iz0,iz1,iz2⟩:=info_parts Zet;have hmm:=@run_makeMap Tryz.prog;obtain⟨W2,hW2⟩:∃W2,W2=(w.alloc (.cells #[.int .i64 0,.int .i64 0] 39)).alloc (.map #[] 0):=⟨_,rfl⟩
 have hz2:W2.heap.size=w.heap.size+1+1:=by rw [hW2];simp
 have HW2:=Lib.hid hW2;go_enter Tryz.func144,Tryz.ntmps144
 go_wp2_with fail
 rw [←HW2.out];go_loopw [7,8] (fun v i wr=>D2Rel f l w W2 v i wr) (fun _ i _=>l.length - (intOf i).toNat)
 case atStart=>
  refine⟨0,0,[],fun _ _=>none,Nat.zero_le _,rfl,Nat.le_refl _,?_,by simp [Zce],Lib.hid ⟨by simp [Zce],.inl ⟨rfl,rfl⟩⟩,?_,Lib.hid (fun _ _ _ h=>by cases h),But.refl _ _ _⟩
  · rw [List.drop_zero];exact(ZrZ _).symm
  · rw [HW2.out];have:=MpT.made (w.alloc (.cells #[.int .i64 0,.int .i64 0] 39));rw [World.size_alloc] at this;exact this
 case round=>
  obtain⟨k,n,out,M,hk,rfl,hn,he,hol,hown,hM,hMf,hb⟩:=hrel;have hz:=hb.size;have hbw:Below w.heap.size w wr:=by
   have h2:Below w.heap.size w W2:=by rw [HW2.out];exact((Below.refl _ _).alloc (Nat.le_refl _) _).alloc (by simp) _
   exact h2.trans ((hb.mono (by omega)).below (by omega))
  have hG0:Grd wr:=hG.below hbw;have hwr1:w.heap.size<wr.heap.size:=by omega
  have hwr2:w.heap.size+1<wr.heap.size:=by omega
  by_cases hlt:k<l.length
  · have hg:=Zbb l k hlt;by_cases hlow:l[k].toNat<128
    · have hst:=Zr1 f l k hlt hlow;have he2:Zu f l 0=ZaT (out++[(l[k].toNat:Int)]) (Zu f (l.drop (k+1)) (k+1)):=by rw [he,hst,ZlG]
      have He2:=Lib.hid he2;have ee:Hid (Zc (out++[(l[k].toNat:Int)])=Zc out++[l[k]]):=Lib.hid (by rw [ZjF,Zco (by omega) (by omega)];congr 2;simp);clear he he2 hst;go_wp2_with (at_builtin;refine ZdY rfl _ _ rfl (w.heap.size+2) u7 (Zc out) rfl wr (l[k]) _ rfl hown.out (by omega) (by omega) rfl ?_;intro v6 w6 HO6 hb6;have HB6:=Lib.hid hb6;clear hb6)
      go_roundw
      case rel=>
       refine⟨k+1,n,_,M,by omega,by go_num,by omega,He2.out,by rw [ee.out,List.length_append,List.length_singleton];omega,Lib.hid (by rw [ee.out];exact HO6.out),hM.same (HB6.out.block _ (by omega)),hMf,hb.trans (But.of HB6.out)⟩
      case measure=>simp [intOf];omega
    · have hh:128≤(l[k].toNat:Int):=by omega
      by_cases hsh:l.length=k+1
      · have hr:=Zr3 f l k hlt hlow hsh;have he2:Zu f l 0= .inr k:=by rw [he,hr];rfl
        have He2:=Lib.hid he2;have hF:=hb.block w.heap.size (by omega) (by omega);rw [HW2.out,Below.heap_alloc _ _ _ (by simp),heap_alloc_new] at hF;obtain⟨q0,q1,q2,q3⟩:=Zb6 hF;clear he he2 hr hF hown hM hMf hol;go_wp2_with fail
        refine bodyPost_ret (v:= .tuple #[.string ⟨#[]⟩,.agg #[.int .i64 2,.int .i64 k]]) (by simp [results,Tryz.results144,go_sem,q0,q1]) rfl ?_;exact HP.out (.inr k) _ He2.out ((hbw.setCell (Nat.le_refl _) _).setCell (Nat.le_refl _) _)
      · have hk1:k+1<l.length:=by omega
        have hg1:=Zbb l (k+1) hk1;have hgk:((k:Int)+1).toNat=k+1:=by omega
        have hF:=hb.block w.heap.size (by omega) (by omega);rw [HW2.out,Below.heap_alloc _ _ _ (by simp),heap_alloc_new] at hF;have hkn:¬(l.length:Int) - k<2:=by omega
        have hfe:=hsg (l[k]) (l[k+1]);have hl8:=hlen2 (l[k]) (l[k+1]);by_cases hf0:f l[k] l[k+1]=[]
        · have hr:=Zr2 f l k hk1 hlow hf0;have he2:Zu f l 0= .inr k:=by rw [he,hr];rfl
          have He2:=Lib.hid he2;clear he he2 hr;generalize hx0:l[k]=x at*;generalize hy0:l[k+1]=y at*;have hts:Zc (f x y)=[]:=by rw [hf0];rfl
          have hM1:=((hM.below ((Below.refl _ wr).alloc (Nat.le_refl _) (.cells #[.int .u8 x.toNat,.int .u8 y.toNat] 262))).below ((Below.refl _ _).drew))
          have HF:=Lib.hid hF;rw [hts,show B []=⟨#[]⟩ from rfl] at hfe;clear hsg hlen2 hf0 hl8;cases hMx:M x y with
          |none=>
           have hMx':=hMx;clear hMx hMf hown;go_wp2_with fail
           go_region
           go_wp2_with (first
            |(at_lookup;refine mt_no rfl _ _ rfl hM1 rfl x y rfl hMx' ?_;intro t0)
            |(go_at_call 220;refine(hfe _ ((hG0.alloc _).below ((Below.refl _ _).drew)|>.alloc _).db).mono ?_;rintro e w1 ⟨rfl,hb1⟩;obtain⟨hc1,hf1⟩:=ZcE hb1;have HX1:=Lib.hid hb1;have hM3:=(hM.below (Zij _ _ _ _ _ _ hb1).1).same (Ze9 (w:=w1) (k:=wr.heap.size+1) (j:=0) (g:=w.heap.size+1) (by omega) (.string ⟨#[]⟩)))
            |(at_mapUpdate;refine ZmX rfl _ _ _ rfl hM3 rfl x y rfl [] rfl (by omega) ?_;intro w4 hM4 hg4;obtain⟨q4,hbt4⟩:=ZlD _ _ _ _ _ _ _ _ (by omega) HX1.out hg4;have hF4:=Zb6 ((hbt4.block w.heap.size (by omega) (by omega)).trans hF);obtain⟨p0,p1,p2,p3⟩:=hF4;have HT4:=Lib.hid hbt4;have HM4:=Lib.hid hM4;clear hbt4 hM4 hg4))
           refine bodyPost_ret (v:= .tuple #[.string ⟨#[]⟩,.agg #[.int .i64 2,.int .i64 k]]) (by simp [results,Tryz.results144,go_sem,p0,p1]) rfl ?_;exact HP.out (.inr k) _ He2.out ((((hbw.trans ((HT4.out.mono hbw.size).below (by omega))).setCell (Nat.le_refl _) _).setCell (Nat.le_refl _) _))
          |some tt=>
           have htt:tt=[]:=by rw [hMf.out x y tt hMx,hts]
           subst htt;have hMx':=hMx;clear hMx hMf hown hfe;have qF:=Zb6 hF;obtain⟨p0,p1,p2,p3⟩:=qF;go_wp2_with fail
           go_region
           go_wp2_with (first
            |(at_lookup;refine ZtO rfl _ _ rfl hM1 rfl x y rfl hMx' ?_))
           refine bodyPost_ret (v:= .tuple #[.string ⟨#[]⟩,.agg #[.int .i64 2,.int .i64 k]]) (by simp [results,Tryz.results144,go_sem,p0,p1,hwr1]) rfl ?_;exact HP.out (.inr k) _ He2.out (((((hbw.setCell (Nat.le_refl _) _).setCell (Nat.le_refl _) _).alloc (by simp [World.setCell];omega) _).alloc (by simp [World.setCell];omega) _).drew)
        · have hr:=Zr4 f l k hk1 hlow hf0;have he2:Zu f l 0=ZaT (out++f l[k] l[k+1]) (Zu f (l.drop (k+2)) (k+2)):=by rw [he,hr,ZlG]
          have hto:Zc (out++f l[k] l[k+1])=Zc out++Zc (f l[k] l[k+1]):=Zhk _ _;have htn:Zc (f l[k] l[k+1])≠[]:=by
           intro h;cases hq:f l[k] l[k+1] with
           |nil=>exact hf0 hq
           |cons p ps=>rw [hq,Za4] at h;exact Ziq p (List.append_eq_nil_iff.1 h).1
          clear he hr hsg hlen2;generalize hx0:l[k]=x at*;generalize hy0:l[k+1]=y at*;have Hts:=Lib.hid (show Zc (f x y)=Zc (f x y) from rfl);have hMf2:∀tt,M x y=some tt→tt=Zc (f x y):=fun tt h=>hMf.out x y tt h;generalize hgt:Zc (f x y)=ts at*;have Hgt:=Lib.hid hgt;have He2:=Lib.hid he2;have Hto:=Lib.hid hto;have hts1:(B ts).toList.isEmpty=false:=Zft htn;clear hgt he2 hto Hts hf0;have hM1:=((hM.below ((Below.refl _ wr).alloc (Nat.le_refl _) (.cells #[.int .u8 x.toNat,.int .u8 y.toNat] 262))).below ((Below.refl _ _).drew))
          cases hMx:M x y with
          |none=>
           have hMx':=hMx;clear hMx hMf2;go_wp2_with fail
           go_region
           go_wp2_with (first
            |(at_lookup;refine mt_no rfl _ _ rfl hM1 rfl x y rfl hMx' ?_;intro t0)
            |(go_at_call 220;refine(hfe _ ((hG0.alloc _).below ((Below.refl _ _).drew)|>.alloc _).db).mono ?_;rintro e w1 ⟨rfl,hb1⟩;obtain⟨hc1,hf1⟩:=ZcE hb1;have HX1:=Lib.hid hb1;have hM3:=(hM.below (Zij _ _ _ _ _ _ hb1).1).same (Ze9 (w:=w1) (k:=wr.heap.size+1) (j:=0) (g:=w.heap.size+1) (by omega) (.string (B ts))))
            |(at_mapUpdate;refine ZmX rfl _ _ _ rfl hM3 rfl x y rfl ts rfl (by omega) ?_;intro w4 hM4 hg4;obtain⟨q4,hbt4⟩:=ZlD _ _ _ _ _ _ _ _ (by omega) HX1.out hg4;have HT4:=Lib.hid hbt4;have HM4:=Lib.hid hM4;have hz4:=hbt4.size;clear hbt4 hM4 hg4)
            |(at_builtin;refine Zk7 rfl _ _ rfl (w.heap.size+2) u7 (Zc out) rfl w4 ts (ZdE hown.out HT4.out (by omega)) (by omega) (by omega) (by omega) rfl ?_;intro v6 w6 HO6 hb6;have HB6:=Lib.hid hb6;clear hb6))
           go_roundw
           case rel=>
            refine⟨k+2,n+1,_,_,by omega,by go_num,by omega,He2.out,by rw [Hto.out,List.length_append];omega,Lib.hid (by rw [Hto.out];exact HO6.out),HM4.out.same (HB6.out.block _ (by omega)),Lib.hid ?_,hb.trans ((HT4.out.mono (by omega)).trans (But.of HB6.out))⟩;intro a b t h;by_cases e:a=x∧b=y
            · simp only [e,and_self,if_true,Option.some.injEq] at h;rw [←h,e.1,e.2];exact Hgt.out.symm
            · simp only [e,if_false] at h;exact hMf.out a b t h
           case measure=>simp [intOf];omega
          |some tt=>
           obtain rfl:=hMf2 tt hMx;have hMx':=hMx;clear hMx hMf2 hfe;go_wp2_with fail
           go_region
           go_wp2_with (first
            |(at_lookup;refine ZmY rfl _ _ rfl hM1 rfl x y rfl hMx' ?_)
            |(at_builtin;refine Zk7 rfl _ _ rfl (w.heap.size+2) u7 (Zc out) rfl _ tt (ZG hown.out (ZlE _ _ _ _ _)) (by simp [World.drew];omega) (by omega) (by omega) rfl ?_;intro v6 w6 HO6 hb6;have HB6:=Lib.hid hb6;clear hb6))
           go_roundw
           case rel=>
            have hbd:=ZlE wr #[.int .u8 x.toNat,.int .u8 y.toNat] (.string (B tt)) 262 264;refine⟨k+2,n,_,_,by omega,by go_num,by omega,He2.out,by rw [Hto.out,List.length_append];omega,Lib.hid (by rw [Hto.out];exact HO6.out),(hM.below hbd).same (HB6.out.block _ (by omega)),hMf,hb.trans (But.of ((hbd.mono (by omega)).trans HB6.out))⟩
           case measure=>simp [intOf];omega
  · have hke:k=l.length:=by omega
    subst hke;have hr:=Zr0 f l l.length (Nat.le_refl _);have he2:Zu f l 0= .inl out:=by rw [he,hr];simp [ZaT]
    have He2:=Lib.hid he2;have hcv:=Zfv wr hown.out;have hF:=hb.block w.heap.size (by omega) (by omega);rw [HW2.out,Below.heap_alloc _ _ _ (by simp),heap_alloc_new] at hF;obtain⟨q0,q1,q2,q3⟩:=Zb6 hF;clear he he2 hr hF hown hM hMf hol;go_wp2_with fail
    refine bodyPost_ret (v:= .tuple #[.string (B (Zc out)),.agg #[.int .i64 0,.int .i64 0]]) (by simp [results,Tryz.results144,go_sem,q0,q1]) rfl ?_;exact HP.out (.inl out) _ He2.out ((hbw.setCell (Nat.le_refl _) _).setCell (Nat.le_refl _) _)
end Go.Proofs.YtlhllehffkoloaaGreatDoor
namespace Go.Proofs.YtlhllehffkoloaaGreatDoor
open Go Go.RowKit
theorem F2 {w w1:World} {T:TypeId} {a b:Value} (hb:Below (w.alloc (.cells #[a,b] T)).heap.size (w.alloc (.cells #[a,b] T)) w1):w1.heap[w.heap.size]? =some (.cells #[a,b] T (0,0)):=by
 rw [hb.block _ (by simp),heap_alloc_new]
theorem ZoT (c:Nat)(hc:c≤3)(l:List UInt8)(hl:l.length≤100000)(w:World)(hG:Grd w):
 Calls Tryz.prog 79 #[.int .i64 c,.string (B l)] w fun e w'=>e= .returned (.tuple #[.string (B (Zc (l.map fun x=>ZbD c x.toNat))),.agg #[.int .i64 0,.int .i64 0]])∧Below w.heap.size w w':=by
 have hof:=fun w hT=>Zqt c hc w hT;have hde:=fun{A} {cp} {q} {rs} hL hn w h hT=>Zkb hc (A:=A) (cp:=cp) (q:=q) (rs:=rs) (B l) hL (by rw [Zn];exact hl) hn w h hT;rw [show tB ((B l).data.toList.map fun x=>ZbD c x.toNat)=B (Zc (l.map fun x=>ZbD c x.toNat)) by rw [Za5];rfl] at hde;generalize B (Zc (l.map fun x=>ZbD c x.toNat))=R at*;have hT:=hG.tabs;unfold Zbj at hof;rcases(show c=0∨c=1∨c=2∨c=3 by omega) with rfl|rfl|rfl|rfl
 all_goals
  go_enter Tryz.func79,Tryz.ntmps79
  go_wp2_with (first
   |(go_at_call 142;refine(hof _ (ZN hT _)).mono ?_;rintro e w1 ⟨A,cp,rs,rfl,h1,h2,h3,h4,hb1⟩;have T1:=Zak (ZN hT _) hb1 (Nat.le_refl _);have HF:=Lib.hid (F2 hb1);have HB:=Lib.hid (Zd hb1);have H4:=Lib.hid h4;clear hb1 h4)
   |(go_at_call 143;refine(hde H4.out h2 _ ((h3.below ((Below.refl _ _).alloc (Nat.le_refl _) _)).more (by simp)) (ZN T1 _)).mono ?_;rintro e w2 ⟨rfl,hb2⟩;have hF2:=(Zd hb2).block w.heap.size (Array.getElem?_eq_some_iff.1 HF.out).1;rw [HF.out] at hF2;have hB2:=HB.out.trans ((Zd hb2).mono HB.out.size);obtain⟨q0,q1,q2,q3⟩:=Zb6 hF2;have HF2:=Lib.hid hF2;have HB2:=Lib.hid hB2;clear hb2 hF2 hB2))
  refine bodyPost_ret (v:= .tuple #[.string R,.agg #[.int .i64 0,.int .i64 0]]) (by simp [results,Tryz.results79,go_sem,q0,q1]) rfl ⟨rfl,?_⟩;exact(HB2.out.setCell (Nat.le_refl _) _).setCell (Nat.le_refl _) _
theorem Zka (r:ZaR):∃s e a,D2V r= .tuple #[.string s,.agg #[.int .i64 e,.int .i64 a]]:=by
 cases r with
 |inl ps=>exact⟨_,_,_,rfl⟩
 |inr n=>exact⟨_,_,_,rfl⟩
theorem ZoU (c:Nat)(hc:4≤c∧c≤6)(l:List UInt8)(hl:l.length≤100000)(w:World)(hG:Grd w):
 Calls Tryz.prog 79 #[.int .i64 c,.string (B l)] w (Za6 (Zu (sg2 c) l 0) w):=by
 have hd:=fun w hG=>Zo3 c hc l hl w hG;unfold Za6 at hd⊢;generalize Zu (sg2 c) l 0=r at*;obtain⟨s,x,a,hr⟩:=Zka r;rw [hr] at hd⊢;rcases(show c=4∨c=5∨c=6 by omega) with rfl|rfl|rfl
 all_goals
  go_enter Tryz.func79,Tryz.ntmps79
  go_wp2_with (go_at_call 144;refine(hd _ (hG.alloc _)).mono ?_;rintro e w1 ⟨rfl,hb1⟩;have HF:=Lib.hid (F2 hb1);obtain⟨q0,q1,q2,q3⟩:=Zb6 HF.out;have HB:=Lib.hid (Zd hb1);clear hb1)
  refine bodyPost_ret (v:= .tuple #[.string s,.agg #[.int .i64 x,.int .i64 a]]) (by simp [results,Tryz.results79,go_sem,q0,q1]) rfl ⟨rfl,?_⟩;exact(HB.out.setCell (Nat.le_refl _) _).setCell (Nat.le_refl _) _
theorem Zj6 (big:Bool)(l:List UInt8)(hl:l.length≤100000)(w:World):
 Calls Tryz.prog 79 #[.int .i64 (if big then 9 else 8),.string (B l)] w (Za6 (Zbh big l) w):=by
 have hd:∀w,Calls Tryz.prog 111 #[.string (B l),.bool big] w (Za6 (Zbh big l) w):=by
  intro w;rcases ZjJ big l with⟨ps,h,e⟩|⟨n,h,e⟩
  · rw [e];exact(ZkV big (B l) ps h (by rw [Zn];omega) w).mono fun e w' h=>⟨h.1,h.2⟩
  · rw [e];exact(ZkU big (B l) n h (by rw [Zn];omega) w).mono fun e w' h=>⟨h.1,h.2⟩
 unfold Za6 at hd⊢;generalize Zbh big l=r at*;obtain⟨s,x,a,hr⟩:=Zka r;rw [hr] at hd⊢;cases big
 all_goals
  go_enter Tryz.func79,Tryz.ntmps79
  go_wp2_with (go_at_call 111;refine(hd _).mono ?_;rintro e w1 ⟨rfl,hb1⟩;have HF:=Lib.hid (F2 hb1);obtain⟨q0,q1,q2,q3⟩:=Zb6 HF.out;have HB:=Lib.hid (Zd hb1);clear hb1)
  refine bodyPost_ret (v:= .tuple #[.string s,.agg #[.int .i64 x,.int .i64 a]]) (by simp [results,Tryz.results79,go_sem,q0,q1]) rfl ⟨rfl,?_⟩;exact(HB.out.setCell (Nat.le_refl _) _).setCell (Nat.le_refl _) _
theorem Zwe {l:List UInt8} {ps:List Int} (h:Good ⟨l.toArray⟩ ps):Zc ps=l:=by
 have:=h.1;simpa using this.symm
theorem ZoV (l:List UInt8)(hl:l.length≤100000)(w:World)(hG:Grd w):
 Calls Tryz.prog 79 #[.int .i64 7,.string (B l)] w (Za6 (Zb0 l) w):=by
 have hT:=hG.tabs;rcases Zeu l with⟨ps,h,e⟩|⟨n,h,e⟩
 · rw [e];unfold Za6 D2V;simp only;rw [Zwe h];have hck:=fun w hT=>Zhz (B l) ps h (by rw [Zn];omega) w hT;have hbd:=fun w=>Z0 0 0 rfl w;clear h e;go_enter Tryz.func79,Tryz.ntmps79
   go_wp2_with (first
    |(go_at_call 145;refine(hck _ (ZN hT _)).mono ?_;rintro e w1 ⟨rfl,hb1⟩;have HF:=Lib.hid (F2 hb1);have HB:=Lib.hid (Zd hb1);clear hb1)
    |(go_at_call 11;refine(hbd _).mono ?_;rintro e w2 ⟨rfl,hb2⟩;have hF2:=(Zd hb2).block w.heap.size (Array.getElem?_eq_some_iff.1 HF.out).1;rw [HF.out] at hF2;have hB2:=HB.out.trans ((Zd hb2).mono HB.out.size);obtain⟨q0,q1,q2,q3⟩:=Zb6 hF2;have HB2:=Lib.hid hB2;clear hb2 hF2 hB2))
   refine bodyPost_ret (v:= .tuple #[.string (B l),.agg #[.int .i64 0,.int .i64 0]]) (by simp [results,Tryz.results79,go_sem,q0,q1]) rfl ⟨rfl,?_⟩;exact(HB2.out.setCell (Nat.le_refl _) _).setCell (Nat.le_refl _) _
 · rw [e];unfold Za6 D2V;simp only;have hck:=fun w hT=>ZoX (B l) n h (by rw [Zn];omega) w hT;have hbd:=fun w=>ZaY 2 n (by decide) w;clear h e;go_enter Tryz.func79,Tryz.ntmps79
   go_wp2_with (first
    |(go_at_call 145;refine(hck _ (ZN hT _)).mono ?_;rintro e w1 ⟨rfl,hb1⟩;have HF:=Lib.hid (F2 hb1);have HB:=Lib.hid (Zd hb1);clear hb1)
    |(go_at_call 11;refine(hbd _).mono ?_;rintro e w2 ⟨rfl,hb2⟩;have hF2:=(Zd hb2).block w.heap.size (Array.getElem?_eq_some_iff.1 HF.out).1;rw [HF.out] at hF2;have hB2:=HB.out.trans ((Zd hb2).mono HB.out.size);obtain⟨q0,q1,q2,q3⟩:=Zb6 hF2;have HB2:=Lib.hid hB2;obtain⟨b0,b1,f0,f1⟩:=Zb6 (F2 hb2);clear hb2 hF2 hB2))
   go_region
   go_wp2_with fail
   refine bodyPost_ret (v:= .tuple #[.string ⟨#[]⟩,.agg #[.int .i64 2,.int .i64 n]]) (by simp [results,Tryz.results79,go_sem,q0,q1]) rfl ⟨rfl,?_⟩;exact((HB2.out.setCell (Nat.le_refl _) _).setCell (Nat.le_refl _) _).drew
theorem Zhx (c:Nat)(hc:c≤9)(l:List UInt8)(hl:l.length≤100000)(w:World)(hG:Grd w):
 Calls Tryz.prog 79 #[.int .i64 c,.string (B l)] w (Za6 (Z9 c l) w):=by
 unfold Z9;by_cases h3:c≤3
 · rw [if_pos h3];exact ZoT c h3 l hl w hG
 rw [if_neg h3];by_cases h6:c≤6
 · rw [if_pos h6];exact ZoU c (by omega) l hl w hG
 rw [if_neg h6];by_cases h7:c=7
 · subst h7;rw [if_pos rfl];exact ZoV l hl w hG
 rw [if_neg h7];rcases(show c=8∨c=9 by omega) with rfl|rfl
 · exact Zj6 false l hl w
 · exact Zj6 true l hl w
end Go.Proofs.YtlhllehffkoloaaGreatDoor
namespace Go.Proofs.YtlhllehffkoloaaGreatDoor
open Go Go.RowKit Go.Maps
theorem ZdU (l:List UInt8)(hl:l.length≤100000)(w:World)(hT:Zk w):Calls Tryz.prog 108 #[.string (B l)] w fun e w'=>e= .returned (.bool (ZP l))∧Below w.heap.size w w':=by
 unfold ZP;rcases Zeu l with⟨ps,h,e⟩|⟨n,h,e⟩
 · rw [e];exact Zq4 (B l) ps h (by rw [Zn];omega) w hT
 · rw [e];exact Zq3 (B l) n h (by rw [Zn];omega) w hT
end Go.Proofs.YtlhllehffkoloaaGreatDoor
namespace Go.Proofs.YtlhllehffkoloaaGreatDoor
open Go Go.RowKit
theorem ZeT:Z4 0=true∧cnt true 0=0:=by decide+kernel
theorem Zis:Zaf 176 161 44032:=by
 unfold Zaf;rw [if_neg (by decide),if_neg (by decide),if_neg (by decide)];unfold Zbk;rw [if_neg (by decide),if_pos (by decide)];exact .inr ⟨by decide,.inl ⟨0,by decide,ZeT.1,ZeT.2,rfl⟩⟩
theorem Zhg:sg2 4 176 161=[44032]:=by
 have h:Zcv 176 161=44032:=Zox Zis;unfold sg2;rw [if_pos rfl,h,if_pos ⟨by decide,by decide⟩]
theorem ZlH:Z9 4 [97,176,161]= .inl [97,44032]:=by
 unfold Z9;rw [if_neg (by decide),if_pos (by decide)];simp only [Zu,Zhg];rfl
theorem ZlI:Z9 4 [97,176]= .inr 1:=by
 unfold Z9;rw [if_neg (by decide),if_pos (by decide)];simp only [Zu];rfl
theorem Zlg:ZaJ 176 161=[]:=by decide+kernel
def ltB:Lt→UInt8
 | .lang=>108
 | .fmt=>102
 | .mime=>122
 | .kind=>107
 | .desc=>100
 | .text=>116
 | .data=>114
def ltN:Lt→List UInt8
 | .lang=>[108,97,110,103,117,97,103,101]
 | .fmt=>[102,111,114,109,97,116]
 | .mime=>[109,105,109,101]
 | .kind=>[107,105,110,100]
 | .desc=>[100,101,115,99,114,105,112,116,105,111,110]
 | .text=>[116,101,120,116]
 | .data=>[100,97,116,97]
def Zo (l:List Lt):List UInt8:=l.map ltB
theorem ZcI (l:List UInt8)(c:List UInt8)(h:l≠c):((B l).toList==c)=false:=by
 rw [ByteArray.toList_eq,Za5,beq_eq_false_iff_ne];exact h
theorem L2_any (id:List UInt8)(hid:id.length≤100000)(w:World):
 Calls Tryz.prog 201 #[.string (B id)] w fun e w'=>e= .returned (.string (B (Zo (Zf 2 id))))∧w=w':=by
 by_cases h0:id=[84,88,88]
 · subst h0;rw [show Zo (Zf 2 [84,88,88])=[100,116] by decide,show B [84,88,88]=⟨#[84,88,88]⟩ from rfl];go_enter Tryz.func201,Tryz.ntmps201
   go_wp2_with fail
   go_ret
   exact⟨rfl,rfl⟩
 have q0:=ZcI id [84,88,88] h0;by_cases h1:id=[67,79,77]
 · subst h1;rw [show Zo (Zf 2 [67,79,77])=[108,100,116] by decide,show B [67,79,77]=⟨#[67,79,77]⟩ from rfl];go_enter Tryz.func201,Tryz.ntmps201
   go_wp2_with fail
   go_ret
   exact⟨rfl,rfl⟩
 have q1:=ZcI id [67,79,77] h1;by_cases h2:id=[85,76,84]
 · subst h2;rw [show Zo (Zf 2 [85,76,84])=[108,100,116] by decide,show B [85,76,84]=⟨#[85,76,84]⟩ from rfl];go_enter Tryz.func201,Tryz.ntmps201
   go_wp2_with fail
   go_ret
   exact⟨rfl,rfl⟩
 have q2:=ZcI id [85,76,84] h2;by_cases h3:id=[87,88,88]
 · subst h3;rw [show Zo (Zf 2 [87,88,88])=[100,114] by decide,show B [87,88,88]=⟨#[87,88,88]⟩ from rfl];go_enter Tryz.func201,Tryz.ntmps201
   go_wp2_with fail
   go_ret
   exact⟨rfl,rfl⟩
 have q3:=ZcI id [87,88,88] h3;by_cases h4:id=[80,73,67]
 · subst h4;rw [show Zo (Zf 2 [80,73,67])=[102,107,100,114] by decide,show B [80,73,67]=⟨#[80,73,67]⟩ from rfl];go_enter Tryz.func201,Tryz.ntmps201
   go_wp2_with fail
   go_ret
   exact⟨rfl,rfl⟩
 have q4:=ZcI id [80,73,67] h4;have hsz:=Zn id;have hlf:Zf 2 id=if id.length=3∧id.head? =some 84 then [.text] else []:=by
  unfold Zf;simp [h0,h1,h2,h3,h4]
 rw [hlf];clear hlf h0 h1 h2 h3 h4;by_cases hn:id.length=3
 · have hn2:((id.length:Int)==3)=true:=by simp;omega
   have hg:=Zbb id 0 (by omega);have hhd:id.head? =some (id[0]'(by omega)):=by cases id with|nil=>simp at hn|cons a r=>rfl
   by_cases hT:id[0]'(by omega)=84
   · have hT2:((id[0]'(by omega)).toNat:Int)=84:=by rw [hT];rfl
     rw [if_pos ⟨hn,by rw [hhd,hT]⟩,show Zo [.text]=[116] from rfl];clear hT hhd;go_enter Tryz.func201,Tryz.ntmps201
     go_wp2_with fail
     go_ret
     exact⟨rfl,rfl⟩
   · have hT2:(((id[0]'(by omega)).toNat:Int)==84)=false:=by
      rw [beq_eq_false_iff_ne];intro e;exact hT (UInt8.toNat_inj.1 (by show(id[0]'(by omega)).toNat=84;omega))
     rw [if_neg (fun h=>hT (by have:=h.2;rw [hhd] at this;injection this)),show Zo []=[] from rfl];clear hT hhd;go_enter Tryz.func201,Tryz.ntmps201
     go_wp2_with fail
     go_ret
     exact⟨rfl,rfl⟩
 · have hn2:((id.length:Int)==3)=false:=by rw [beq_eq_false_iff_ne];omega
   rw [if_neg (fun h=>hn h.1),show Zo []=[] from rfl];go_enter Tryz.func201,Tryz.ntmps201
   go_wp2_with fail
   go_ret
   exact⟨rfl,rfl⟩
theorem L4_any (id:List UInt8)(hid:id.length≤100000)(w:World):
 Calls Tryz.prog 202 #[.string (B id)] w fun e w'=>e= .returned (.string (B (Zo (Zf 4 id))))∧w=w':=by
 by_cases h0:id=[84,88,88,88]
 · subst h0;rw [show Zo (Zf 4 [84,88,88,88])=[100,116] by decide,show B [84,88,88,88]=⟨#[84,88,88,88]⟩ from rfl];go_enter Tryz.func202,Tryz.ntmps202
   go_wp2_with fail
   go_ret
   exact⟨rfl,rfl⟩
 have q0:=ZcI id [84,88,88,88] h0;by_cases h1:id=[67,79,77,77]
 · subst h1;rw [show Zo (Zf 4 [67,79,77,77])=[108,100,116] by decide,show B [67,79,77,77]=⟨#[67,79,77,77]⟩ from rfl];go_enter Tryz.func202,Tryz.ntmps202
   go_wp2_with fail
   go_ret
   exact⟨rfl,rfl⟩
 have q1:=ZcI id [67,79,77,77] h1;by_cases h2:id=[85,83,76,84]
 · subst h2;rw [show Zo (Zf 4 [85,83,76,84])=[108,100,116] by decide,show B [85,83,76,84]=⟨#[85,83,76,84]⟩ from rfl];go_enter Tryz.func202,Tryz.ntmps202
   go_wp2_with fail
   go_ret
   exact⟨rfl,rfl⟩
 have q2:=ZcI id [85,83,76,84] h2;by_cases h3:id=[87,88,88,88]
 · subst h3;rw [show Zo (Zf 4 [87,88,88,88])=[100,114] by decide,show B [87,88,88,88]=⟨#[87,88,88,88]⟩ from rfl];go_enter Tryz.func202,Tryz.ntmps202
   go_wp2_with fail
   go_ret
   exact⟨rfl,rfl⟩
 have q3:=ZcI id [87,88,88,88] h3;by_cases h4:id=[65,80,73,67]
 · subst h4;rw [show Zo (Zf 4 [65,80,73,67])=[122,107,100,114] by decide,show B [65,80,73,67]=⟨#[65,80,73,67]⟩ from rfl];go_enter Tryz.func202,Tryz.ntmps202
   go_wp2_with fail
   go_ret
   exact⟨rfl,rfl⟩
 have q4:=ZcI id [65,80,73,67] h4;have hsz:=Zn id;have hlf:Zf 4 id=if id.length=4∧id.head? =some 84 then [.text] else []:=by
  unfold Zf;simp [h0,h1,h2,h3,h4]
 rw [hlf];clear hlf h0 h1 h2 h3 h4;by_cases hn:id.length=4
 · have hn2:((id.length:Int)==4)=true:=by simp;omega
   have hg:=Zbb id 0 (by omega);have hhd:id.head? =some (id[0]'(by omega)):=by cases id with|nil=>simp at hn|cons a r=>rfl
   by_cases hT:id[0]'(by omega)=84
   · have hT2:((id[0]'(by omega)).toNat:Int)=84:=by rw [hT];rfl
     rw [if_pos ⟨hn,by rw [hhd,hT]⟩,show Zo [.text]=[116] from rfl];clear hT hhd;go_enter Tryz.func202,Tryz.ntmps202
     go_wp2_with fail
     go_ret
     exact⟨rfl,rfl⟩
   · have hT2:(((id[0]'(by omega)).toNat:Int)==84)=false:=by
      rw [beq_eq_false_iff_ne];intro e;exact hT (UInt8.toNat_inj.1 (by show(id[0]'(by omega)).toNat=84;omega))
     rw [if_neg (fun h=>hT (by have:=h.2;rw [hhd] at this;injection this)),show Zo []=[] from rfl];clear hT hhd;go_enter Tryz.func202,Tryz.ntmps202
     go_wp2_with fail
     go_ret
     exact⟨rfl,rfl⟩
 · have hn2:((id.length:Int)==4)=false:=by rw [beq_eq_false_iff_ne];omega
   rw [if_neg (fun h=>hn h.1),show Zo []=[] from rfl];go_enter Tryz.func202,Tryz.ntmps202
   go_wp2_with fail
   go_ret
   exact⟨rfl,rfl⟩
theorem lay34 (id:List UInt8):Zf 3 id=Zf 4 id:=by unfold Zf;simp
theorem Ztx (v:Nat)(id:List UInt8)(h:v≠2∧v≠3∧v≠4):Zf v id=[]:=by unfold Zf;simp [h]
theorem Zgg (v:Nat)(id:List UInt8)(hid:id.length≤100000)(w:World):
 Calls Tryz.prog 119 #[.int .i64 v,.string (B id)] w fun e w'=>e= .returned (.string (B (Zo (Zf v id))))∧w=w':=by
 have h2:=fun w=>L2_any id hid w;have h4:=fun w=>L4_any id hid w;by_cases e2:v=2
 · subst e2;generalize B (Zo (Zf 2 id))=R at*;go_enter Tryz.func119,Tryz.ntmps119
   go_wp2_with (go_at_call 201;refine(h2 _).mono ?_;rintro e w1 ⟨rfl,rfl⟩)
   go_ret
   exact⟨rfl,rfl⟩
 by_cases e3:v=3
 · subst e3;rw [lay34];generalize B (Zo (Zf 4 id))=R at*;go_enter Tryz.func119,Tryz.ntmps119
   go_wp2_with (go_at_call 202;refine(h4 _).mono ?_;rintro e w1 ⟨rfl,rfl⟩)
   go_ret
   exact⟨rfl,rfl⟩
 by_cases e4:v=4
 · subst e4;generalize B (Zo (Zf 4 id))=R at*;go_enter Tryz.func119,Tryz.ntmps119
   go_wp2_with (go_at_call 202;refine(h4 _).mono ?_;rintro e w1 ⟨rfl,rfl⟩)
   go_ret
   exact⟨rfl,rfl⟩
 rw [Ztx v id ⟨e2,e3,e4⟩,show Zo []=[] from rfl];have q2:((v:Int)==2)=false:=by rw [beq_eq_false_iff_ne];omega
 have q3:((v:Int)==3)=false:=by rw [beq_eq_false_iff_ne];omega
 have q4:((v:Int)==4)=false:=by rw [beq_eq_false_iff_ne];omega
 clear h2 h4;go_enter Tryz.func119,Tryz.ntmps119
 go_wp2_with fail
 go_ret
 exact⟨rfl,rfl⟩
theorem ZpT (l:Lt)(w:World):Calls Tryz.prog 120 #[.int .u8 (ltB l).toNat] w fun e w'=>e= .returned (.string (B (ltN l)))∧w=w':=by
 cases l
 all_goals
  rw [show B (ltN _)=_ from rfl];unfold ltB ltN;go_enter Tryz.func120,Tryz.ntmps120
  go_wp2_with fail
  go_ret
  exact⟨rfl,rfl⟩
theorem ZpR (v enc:Nat)(he:enc<256)(w:World):Calls Tryz.prog 121 #[.int .i64 v,.int .u8 enc] w fun e w'=>e= .returned (.bool (Zdx v enc))∧w=w':=by
 unfold Zdx;by_cases h1:enc≤1
 · have e1:(enc:Int)≤1:=by omega
   rw [decide_eq_true h1,Bool.true_or];go_enter Tryz.func121,Tryz.ntmps121
   go_wp2_with fail
   go_ret
   exact⟨rfl,rfl⟩
 · have e1:¬(enc:Int)≤1:=by omega
   rw [decide_eq_false h1,Bool.false_or];by_cases h4:v=4
   · subst h4;by_cases h3:enc≤3
     · have e3:(enc:Int)≤3:=by omega
       rw [decide_eq_true h3];go_enter Tryz.func121,Tryz.ntmps121
       go_wp2_with fail
       go_ret
       exact⟨rfl,rfl⟩
     · have e3:¬(enc:Int)≤3:=by omega
       rw [decide_eq_false h3];go_enter Tryz.func121,Tryz.ntmps121
       go_wp2_with fail
       go_ret
       exact⟨rfl,rfl⟩
   · have q4:((v:Int)==4)=false:=by rw [beq_eq_false_iff_ne];omega
     rw [beq_eq_false_iff_ne.2 h4,Bool.false_and];go_enter Tryz.func121,Tryz.ntmps121
     go_wp2_with fail
     go_ret
     exact⟨rfl,rfl⟩
def dplus (k:Nat):ZaR→ZaR
 | .inl ps=> .inl ps
 | .inr n=> .inr (n+k)
def Zcb (l:List UInt8):ZaR:=if l=[] then .inl [] else if Zbs l=false then .inr 0 else dplus 2 (Zbh (Zam l) (l.drop 2))
theorem Zlc (l:List UInt8):behind (B l)=B (l.drop 2):=by
 unfold behind;rw [Zn,Zfg,List.take_of_length_le (by simp)]
theorem Zkl (l:List UInt8)(hl:l.length≤100000)(w:World):
 Calls Tryz.prog 228 #[.string (B l)] w (Za6 (Zcb l) w):=by
 have hsz:=Zn l;unfold Zcb;by_cases h0:l=[]
 · subst h0;rw [if_pos rfl];exact ZpO w
 rw [if_neg h0];have hpos:0<(B l).size:=by rw [hsz];exact List.length_pos_iff.2 h0
 cases hm:Zbs l with
 |false=>
  rw [if_pos rfl];exact ZpQ (B l) hpos (by omega) (by rw [Za5];exact hm) w
 |true=>
  rw [if_neg (by decide)];rcases ZjJ (Zam l) (l.drop 2) with⟨ps,h,e⟩|⟨n,h,e⟩
  · rw [e];exact(ZpP (B l) ps (by rw [Za5];exact hm) (by rw [Za5,Zlc];exact h) (by omega) w).mono fun e w' h=>⟨h.1,h.2⟩
  · rw [e];exact(ZpN (B l) n (by rw [Za5];exact hm) (by rw [Za5,Zlc];exact h) (by omega) w).mono fun e w' h=>⟨h.1,h.2⟩
def wdR (set:Nat):ZaR→Except (Nat×Nat) (List UInt8×Nat)
 | .inl ps=> .ok (Zc ps,set)
 | .inr n=> .error (2,n)
noncomputable def wdF (fb:Nat)(det:Bool)(enc:Nat)(l:List UInt8):Except (Nat×Nat) (List UInt8×Nat):=
 if enc=0 then wdR (ZnO l [] fb det) (Z9 (ZnO l [] fb det) l) else if enc=1 then wdR (if Zam l then 9 else 8) (Zcb l) else if enc=2 then wdR 9 (Zbh true l) else wdR 7 (Zb0 l)
def ZcC (K:Nat)(s:InS)(k:Nat)(r:Except (Nat×Nat) (List UInt8×Nat))(w:World)(e:Ending)(w':World):Prop:=
 match r with
 | .ok t=>Zh K w (.tuple #[.string (B t.1),.int .i64 (t.2:Nat)]) s e w'
 | .error x=>Zh K w (.tuple #[.string ⟨#[]⟩,.int .i64 0]) (s.fail x.1 (k+x.2)) e w'
theorem Zor (big:Bool)(l:List UInt8)(n:Nat)(h:Zbh big l= .inr n):n≤l.length:=by
 rcases ZjJ big l with⟨qs,hq,e⟩|⟨m,hq,e⟩
 · rw [e] at h;cases h
 · rw [e] at h;injection h with h;subst h
   obtain⟨ps,r,⟨h1,_⟩,h3,_⟩:=hq;have:=congrArg List.length h1;simp at this;omega
theorem Zr5 {c:Nat} (l:List UInt8)(n:Nat)(h:Z9 c l= .inr n):n≤l.length:=by
 unfold Z9 at h;split at h
 · cases h
 · split at h
   · have:=Zil _ l 0 n h;omega
   · split at h
     · rcases Zeu l with⟨qs,hq,e⟩|⟨m,hq,e⟩
       · rw [e] at h;cases h
       · rw [e] at h;injection h with h;subst h
         have h1:=hq.lt;have h2:(⟨l.toArray⟩:ByteArray).size=l.length:=Zn l;omega
     · exact Zor _ l n h
theorem ZmT (l:List UInt8)(n:Nat)(h:Zcb l= .inr n):n≤l.length+2:=by
 unfold Zcb at h;split at h
 · cases h
 · split at h
   · injection h with h;omega
   · have hb:=Zor (Zam l) (l.drop 2);generalize Zbh (Zam l) (l.drop 2)=r at*;cases r with
     |inl ps=>cases h
     |inr m=>injection h with h;subst h;have:=hb m rfl;simp at this;omega
theorem Zrc (K:Nat)(s:InS)(kd bud:Int)(fb:Nat)(det:Bool)(l:List UInt8)(hl:l.length≤100000)(k:Nat)(hk:k≤1000000000)(w:World)(hG:Grd w)(h:InAt w K s)(hfb:fb≤9)(hB:Zam l=true):
 Calls Tryz.prog 204 #[.agg #[.pointer (some ⟨K,0,none⟩),.int .u8 1,.int .i64 kd,.int .i64 fb,.bool det,.int .i64 bud],.string (B l),.int .i64 k] w (ZcC K s k (wdF fb det 1 l) w):=by
 have hlt:=h.lt;have X0:Hid (Bx ((w.alloc (.cells #[.pointer (some ⟨K,0,none⟩),.int .u8 1,.int .i64 kd,.int .i64 fb,.bool det,.int .i64 bud] 180)).alloc (.cells #[.int .i64 0,.int .i64 0] 39)) w.heap.size #[.pointer (some ⟨K,0,none⟩),.int .u8 1,.int .i64 kd,.int .i64 fb,.bool det,.int .i64 bud] 180):=Lib.hid ((Bx.new w _ _).alloc _);have Y0:Hid (Bx ((w.alloc (.cells #[.pointer (some ⟨K,0,none⟩),.int .u8 1,.int .i64 kd,.int .i64 fb,.bool det,.int .i64 bud] 180)).alloc (.cells #[.int .i64 0,.int .i64 0] 39)) (w.heap.size+1) #[.int .i64 0,.int .i64 0] 39):=Lib.hid (by have:=Bx.new (w.alloc (.cells #[.pointer (some ⟨K,0,none⟩),.int .u8 1,.int .i64 kd,.int .i64 fb,.bool det,.int .i64 bud] 180)) #[.int .i64 0,.int .i64 0] 39;rw [World.size_alloc] at this;exact this);have H0:=Lib.hid ((h.alloc (.cells #[.pointer (some ⟨K,0,none⟩),.int .u8 1,.int .i64 kd,.int .i64 fb,.bool det,.int .i64 bud] 180)).alloc (.cells #[.int .i64 0,.int .i64 0] 39));have L0:Hid (Below w.heap.size w ((w.alloc (.cells #[.pointer (some ⟨K,0,none⟩),.int .u8 1,.int .i64 kd,.int .i64 fb,.bool det,.int .i64 bud] 180)).alloc (.cells #[.int .i64 0,.int .i64 0] 39))):=Lib.hid (((Below.refl _ w).alloc (Nat.le_refl _) _).alloc (by simp) _);have G0:=Lib.hid ((hG.alloc (.cells #[.pointer (some ⟨K,0,none⟩),.int .u8 1,.int .i64 kd,.int .i64 fb,.bool det,.int .i64 bud] 180)).alloc (.cells #[.int .i64 0,.int .i64 0] 39));have hw:Zam l=true→wdF fb det 1 l=wdR 9 (Zcb l):=fun hB=>by unfold wdF;rw [if_neg (by decide),if_pos rfl,hB];rfl
 rw [hw hB];clear hw;have hmk:=fun w=>Zfl (B l) (by rw [Zn];omega) w;rw [Za5,hB] at hmk;have hde:=fun w=>Zkl l hl w;have hnn:∀n,Zcb l= .inr n→n≤1000000:=fun n hn=>by have:=ZmT l n hn;omega
 generalize Zcb l=r at*;generalize Zbs l=im at*;unfold Za6 at hde;cases r with
 |inl ps=>
  unfold D2V at hde;simp only at hde;have hbd:=fun w=>Z0 0 0 rfl w;generalize hP:ZcC K s k (wdR 9 (.inl ps)) w=P at*;have hP2:∀w',InAt w' K s→But K w.heap.size w w'→P (.returned (.tuple #[.string (B (Zc ps)),.int .i64 (9:Nat)])) w':=fun w' h1 h2=>by rw [←hP];exact⟨rfl,h1,h2⟩
  have HP:=Lib.hid hP2;clear hP hP2;generalize B (Zc ps)=T at*;go_enter Tryz.func204,Tryz.ntmps204
  go_wp2_with (first
   |(go_at_call 257;refine(hmk _).mono ?_;rintro e w1 ⟨rfl,hb1⟩;have X1:=Lib.hid (X0.out.below hb1);have Y1:=Lib.hid (Y0.out.below hb1);have H1:=Lib.hid (H0.out.below hb1);have L1:=Lib.hid (L0.out.trans (hb1.mono L0.out.size));clear hb1)
   |(go_at_call 228;refine(hde _).mono ?_;rintro e w2 ⟨rfl,hb2⟩;have X2:=Lib.hid (X1.out.below hb2);have Y2:=Lib.hid (Y1.out.below hb2);have H2:=Lib.hid (H1.out.below hb2);have L2:=Lib.hid (L1.out.trans (hb2.mono L1.out.size));clear hb2;have y0:=Y2.out.cell 0;have y1:=Y2.out.cell 1;have g0:=Y2.out.free 0;have g1:=Y2.out.free 1)
   |(go_at_call 11;refine(hbd _).mono ?_;rintro e w3 ⟨rfl,hb3⟩;have X3:=Lib.hid (((X2.out.set (k:=w.heap.size+1) (by omega) 0 _).set (k:=w.heap.size+1) (by omega) 1 _).below hb3);have Y3:=Lib.hid (((Y2.out.put 0 _).put 1 _).below hb3);have H3:=Lib.hid (((H2.out.set (g:=w.heap.size+1) (by omega) 0 _).set (g:=w.heap.size+1) (by omega) 1 _).below hb3);have L3:=Lib.hid (((L2.out.setCell (p:=⟨w.heap.size+1,0,none⟩) (Nat.le_succ _) _).setCell (p:=⟨w.heap.size+1,1,none⟩) (Nat.le_succ _) _).trans (hb3.mono (by have:=L2.out.size;simpa [World.setCell] using this)));clear hb3;have x30:=X3.out.cell 0;have y30:=Y3.out.cell 0;have y31:=Y3.out.cell 1)
   |(go_at_call 124;refine(hfa _ H3.out).mono ?_;rintro e w4 ⟨rfl,h4,hb4⟩))
  exact HP.out _ H3.out (.of L3.out)
 |inr n=>
  unfold D2V at hde;simp only at hde;have hbd:=fun w=>ZaY 2 n (by decide) w;have hn9:n≤1000000:=hnn n rfl;have hfa:=fun w h=>Za7 K s 2 ((k:Int)+n) (by decide) (by omega) w h;rw [show((2:Int).toNat)=2 from rfl,show((k:Int)+n).toNat=k+n by omega] at hfa;unfold Zh at hfa;generalize hP:ZcC K s k (wdR 9 (.inr n)) w=P at*;have hP2:∀w',InAt w' K (s.fail 2 (k+n))→But K w.heap.size w w'→P (.returned (.tuple #[.string ⟨#[]⟩,.int .i64 0])) w':=fun w' h1 h2=>by rw [←hP];exact⟨rfl,h1,h2⟩
  have HP:=Lib.hid hP2;clear hP hP2;go_enter Tryz.func204,Tryz.ntmps204
  go_wp2_with (first
   |(go_at_call 257;refine(hmk _).mono ?_;rintro e w1 ⟨rfl,hb1⟩;have X1:=Lib.hid (X0.out.below hb1);have Y1:=Lib.hid (Y0.out.below hb1);have H1:=Lib.hid (H0.out.below hb1);have L1:=Lib.hid (L0.out.trans (hb1.mono L0.out.size));clear hb1)
   |(go_at_call 228;refine(hde _).mono ?_;rintro e w2 ⟨rfl,hb2⟩;have X2:=Lib.hid (X1.out.below hb2);have Y2:=Lib.hid (Y1.out.below hb2);have H2:=Lib.hid (H1.out.below hb2);have L2:=Lib.hid (L1.out.trans (hb2.mono L1.out.size));clear hb2;have y0:=Y2.out.cell 0;have y1:=Y2.out.cell 1;have g0:=Y2.out.free 0;have g1:=Y2.out.free 1)
   |(go_at_call 11;refine(hbd _).mono ?_;rintro e w3 ⟨rfl,hb3⟩;have X3:=Lib.hid (((X2.out.set (k:=w.heap.size+1) (by omega) 0 _).set (k:=w.heap.size+1) (by omega) 1 _).below hb3);have Y3:=Lib.hid (((Y2.out.put 0 _).put 1 _).below hb3);have H3:=Lib.hid (((H2.out.set (g:=w.heap.size+1) (by omega) 0 _).set (g:=w.heap.size+1) (by omega) 1 _).below hb3);have L3:=Lib.hid (((L2.out.setCell (p:=⟨w.heap.size+1,0,none⟩) (Nat.le_succ _) _).setCell (p:=⟨w.heap.size+1,1,none⟩) (Nat.le_succ _) _).trans (hb3.mono (by have:=L2.out.size;simpa [World.setCell] using this)));clear hb3;have x30:=X3.out.cell 0;have y30:=Y3.out.cell 0;have y31:=Y3.out.cell 1)
   |(go_at_call 124;refine(hfa _ H3.out).mono ?_;rintro e w4 ⟨rfl,h4,hb4⟩))
  exact HP.out _ h4 ((But.of L3.out).trans (hb4.mono L3.out.size))
theorem Zrb (K:Nat)(s:InS)(kd bud:Int)(fb:Nat)(det:Bool)(l:List UInt8)(hl:l.length≤100000)(k:Nat)(hk:k≤1000000000)(w:World)(hG:Grd w)(h:InAt w K s)(hfb:fb≤9)(hB:Zam l=false):
 Calls Tryz.prog 204 #[.agg #[.pointer (some ⟨K,0,none⟩),.int .u8 1,.int .i64 kd,.int .i64 fb,.bool det,.int .i64 bud],.string (B l),.int .i64 k] w (ZcC K s k (wdF fb det 1 l) w):=by
 have hlt:=h.lt;have X0:Hid (Bx ((w.alloc (.cells #[.pointer (some ⟨K,0,none⟩),.int .u8 1,.int .i64 kd,.int .i64 fb,.bool det,.int .i64 bud] 180)).alloc (.cells #[.int .i64 0,.int .i64 0] 39)) w.heap.size #[.pointer (some ⟨K,0,none⟩),.int .u8 1,.int .i64 kd,.int .i64 fb,.bool det,.int .i64 bud] 180):=Lib.hid ((Bx.new w _ _).alloc _);have Y0:Hid (Bx ((w.alloc (.cells #[.pointer (some ⟨K,0,none⟩),.int .u8 1,.int .i64 kd,.int .i64 fb,.bool det,.int .i64 bud] 180)).alloc (.cells #[.int .i64 0,.int .i64 0] 39)) (w.heap.size+1) #[.int .i64 0,.int .i64 0] 39):=Lib.hid (by have:=Bx.new (w.alloc (.cells #[.pointer (some ⟨K,0,none⟩),.int .u8 1,.int .i64 kd,.int .i64 fb,.bool det,.int .i64 bud] 180)) #[.int .i64 0,.int .i64 0] 39;rw [World.size_alloc] at this;exact this);have H0:=Lib.hid ((h.alloc (.cells #[.pointer (some ⟨K,0,none⟩),.int .u8 1,.int .i64 kd,.int .i64 fb,.bool det,.int .i64 bud] 180)).alloc (.cells #[.int .i64 0,.int .i64 0] 39));have L0:Hid (Below w.heap.size w ((w.alloc (.cells #[.pointer (some ⟨K,0,none⟩),.int .u8 1,.int .i64 kd,.int .i64 fb,.bool det,.int .i64 bud] 180)).alloc (.cells #[.int .i64 0,.int .i64 0] 39))):=Lib.hid (((Below.refl _ w).alloc (Nat.le_refl _) _).alloc (by simp) _);have G0:=Lib.hid ((hG.alloc (.cells #[.pointer (some ⟨K,0,none⟩),.int .u8 1,.int .i64 kd,.int .i64 fb,.bool det,.int .i64 bud] 180)).alloc (.cells #[.int .i64 0,.int .i64 0] 39));have hw:Zam l=false→wdF fb det 1 l=wdR 8 (Zcb l):=fun hB=>by unfold wdF;rw [if_neg (by decide),if_pos rfl,hB];rfl
 rw [hw hB];clear hw;have hmk:=fun w=>Zfl (B l) (by rw [Zn];omega) w;rw [Za5,hB] at hmk;have hde:=fun w=>Zkl l hl w;have hnn:∀n,Zcb l= .inr n→n≤1000000:=fun n hn=>by have:=ZmT l n hn;omega
 generalize Zcb l=r at*;generalize Zbs l=im at*;unfold Za6 at hde;cases r with
 |inl ps=>
  unfold D2V at hde;simp only at hde;have hbd:=fun w=>Z0 0 0 rfl w;generalize hP:ZcC K s k (wdR 8 (.inl ps)) w=P at*;have hP2:∀w',InAt w' K s→But K w.heap.size w w'→P (.returned (.tuple #[.string (B (Zc ps)),.int .i64 (8:Nat)])) w':=fun w' h1 h2=>by rw [←hP];exact⟨rfl,h1,h2⟩
  have HP:=Lib.hid hP2;clear hP hP2;generalize B (Zc ps)=T at*;go_enter Tryz.func204,Tryz.ntmps204
  go_wp2_with (first
   |(go_at_call 257;refine(hmk _).mono ?_;rintro e w1 ⟨rfl,hb1⟩;have X1:=Lib.hid (X0.out.below hb1);have Y1:=Lib.hid (Y0.out.below hb1);have H1:=Lib.hid (H0.out.below hb1);have L1:=Lib.hid (L0.out.trans (hb1.mono L0.out.size));clear hb1)
   |(go_at_call 228;refine(hde _).mono ?_;rintro e w2 ⟨rfl,hb2⟩;have X2:=Lib.hid (X1.out.below hb2);have Y2:=Lib.hid (Y1.out.below hb2);have H2:=Lib.hid (H1.out.below hb2);have L2:=Lib.hid (L1.out.trans (hb2.mono L1.out.size));clear hb2;have y0:=Y2.out.cell 0;have y1:=Y2.out.cell 1;have g0:=Y2.out.free 0;have g1:=Y2.out.free 1)
   |(go_at_call 11;refine(hbd _).mono ?_;rintro e w3 ⟨rfl,hb3⟩;have X3:=Lib.hid (((X2.out.set (k:=w.heap.size+1) (by omega) 0 _).set (k:=w.heap.size+1) (by omega) 1 _).below hb3);have Y3:=Lib.hid (((Y2.out.put 0 _).put 1 _).below hb3);have H3:=Lib.hid (((H2.out.set (g:=w.heap.size+1) (by omega) 0 _).set (g:=w.heap.size+1) (by omega) 1 _).below hb3);have L3:=Lib.hid (((L2.out.setCell (p:=⟨w.heap.size+1,0,none⟩) (Nat.le_succ _) _).setCell (p:=⟨w.heap.size+1,1,none⟩) (Nat.le_succ _) _).trans (hb3.mono (by have:=L2.out.size;simpa [World.setCell] using this)));clear hb3;have x30:=X3.out.cell 0;have y30:=Y3.out.cell 0;have y31:=Y3.out.cell 1)
   |(go_at_call 124;refine(hfa _ H3.out).mono ?_;rintro e w4 ⟨rfl,h4,hb4⟩))
  exact HP.out _ H3.out (.of L3.out)
 |inr n=>
  unfold D2V at hde;simp only at hde;have hbd:=fun w=>ZaY 2 n (by decide) w;have hn9:n≤1000000:=hnn n rfl;have hfa:=fun w h=>Za7 K s 2 ((k:Int)+n) (by decide) (by omega) w h;rw [show((2:Int).toNat)=2 from rfl,show((k:Int)+n).toNat=k+n by omega] at hfa;unfold Zh at hfa;generalize hP:ZcC K s k (wdR 8 (.inr n)) w=P at*;have hP2:∀w',InAt w' K (s.fail 2 (k+n))→But K w.heap.size w w'→P (.returned (.tuple #[.string ⟨#[]⟩,.int .i64 0])) w':=fun w' h1 h2=>by rw [←hP];exact⟨rfl,h1,h2⟩
  have HP:=Lib.hid hP2;clear hP hP2;go_enter Tryz.func204,Tryz.ntmps204
  go_wp2_with (first
   |(go_at_call 257;refine(hmk _).mono ?_;rintro e w1 ⟨rfl,hb1⟩;have X1:=Lib.hid (X0.out.below hb1);have Y1:=Lib.hid (Y0.out.below hb1);have H1:=Lib.hid (H0.out.below hb1);have L1:=Lib.hid (L0.out.trans (hb1.mono L0.out.size));clear hb1)
   |(go_at_call 228;refine(hde _).mono ?_;rintro e w2 ⟨rfl,hb2⟩;have X2:=Lib.hid (X1.out.below hb2);have Y2:=Lib.hid (Y1.out.below hb2);have H2:=Lib.hid (H1.out.below hb2);have L2:=Lib.hid (L1.out.trans (hb2.mono L1.out.size));clear hb2;have y0:=Y2.out.cell 0;have y1:=Y2.out.cell 1;have g0:=Y2.out.free 0;have g1:=Y2.out.free 1)
   |(go_at_call 11;refine(hbd _).mono ?_;rintro e w3 ⟨rfl,hb3⟩;have X3:=Lib.hid (((X2.out.set (k:=w.heap.size+1) (by omega) 0 _).set (k:=w.heap.size+1) (by omega) 1 _).below hb3);have Y3:=Lib.hid (((Y2.out.put 0 _).put 1 _).below hb3);have H3:=Lib.hid (((H2.out.set (g:=w.heap.size+1) (by omega) 0 _).set (g:=w.heap.size+1) (by omega) 1 _).below hb3);have L3:=Lib.hid (((L2.out.setCell (p:=⟨w.heap.size+1,0,none⟩) (Nat.le_succ _) _).setCell (p:=⟨w.heap.size+1,1,none⟩) (Nat.le_succ _) _).trans (hb3.mono (by have:=L2.out.size;simpa [World.setCell] using this)));clear hb3;have x30:=X3.out.cell 0;have y30:=Y3.out.cell 0;have y31:=Y3.out.cell 1)
   |(go_at_call 124;refine(hfa _ H3.out).mono ?_;rintro e w4 ⟨rfl,h4,hb4⟩))
  exact HP.out _ h4 ((But.of L3.out).trans (hb4.mono L3.out.size))
theorem Words3 (K:Nat)(s:InS)(en:Nat)(hen:3≤en∧en≤255)(kd bud:Int)(fb:Nat)(det:Bool)(l:List UInt8)(hl:l.length≤100000)(k:Nat)(hk:k≤1000000000)(w:World)(hG:Grd w)(h:InAt w K s)(hfb:fb≤9):
 Calls Tryz.prog 204 #[.agg #[.pointer (some ⟨K,0,none⟩),.int .u8 en,.int .i64 kd,.int .i64 fb,.bool det,.int .i64 bud],.string (B l),.int .i64 k] w (ZcC K s k (wdF fb det en l) w):=by
 have hlt:=h.lt;have X0:Hid (Bx ((w.alloc (.cells #[.pointer (some ⟨K,0,none⟩),.int .u8 en,.int .i64 kd,.int .i64 fb,.bool det,.int .i64 bud] 180)).alloc (.cells #[.int .i64 0,.int .i64 0] 39)) w.heap.size #[.pointer (some ⟨K,0,none⟩),.int .u8 en,.int .i64 kd,.int .i64 fb,.bool det,.int .i64 bud] 180):=Lib.hid ((Bx.new w _ _).alloc _);have Y0:Hid (Bx ((w.alloc (.cells #[.pointer (some ⟨K,0,none⟩),.int .u8 en,.int .i64 kd,.int .i64 fb,.bool det,.int .i64 bud] 180)).alloc (.cells #[.int .i64 0,.int .i64 0] 39)) (w.heap.size+1) #[.int .i64 0,.int .i64 0] 39):=Lib.hid (by have:=Bx.new (w.alloc (.cells #[.pointer (some ⟨K,0,none⟩),.int .u8 en,.int .i64 kd,.int .i64 fb,.bool det,.int .i64 bud] 180)) #[.int .i64 0,.int .i64 0] 39;rw [World.size_alloc] at this;exact this);have H0:=Lib.hid ((h.alloc (.cells #[.pointer (some ⟨K,0,none⟩),.int .u8 en,.int .i64 kd,.int .i64 fb,.bool det,.int .i64 bud] 180)).alloc (.cells #[.int .i64 0,.int .i64 0] 39));have L0:Hid (Below w.heap.size w ((w.alloc (.cells #[.pointer (some ⟨K,0,none⟩),.int .u8 en,.int .i64 kd,.int .i64 fb,.bool det,.int .i64 bud] 180)).alloc (.cells #[.int .i64 0,.int .i64 0] 39))):=Lib.hid (((Below.refl _ w).alloc (Nat.le_refl _) _).alloc (by simp) _);have G0:=Lib.hid ((hG.alloc (.cells #[.pointer (some ⟨K,0,none⟩),.int .u8 en,.int .i64 kd,.int .i64 fb,.bool det,.int .i64 bud] 180)).alloc (.cells #[.int .i64 0,.int .i64 0] 39));have hw:wdF fb det en l=wdR 7 (Z9 7 l):=by unfold wdF Z9;rw [if_neg (by omega),if_neg (by omega),if_neg (by omega)];rfl
 rw [hw];clear hw;have q0:((en:Int)==0)=false:=by rw [beq_eq_false_iff_ne];omega
 have q1:((en:Int)==1)=false:=by rw [beq_eq_false_iff_ne];omega
 have q2:((en:Int)==2)=false:=by rw [beq_eq_false_iff_ne];omega
 clear hen;have hde:=fun w hG=>Zhx 7 (by decide) l hl w hG;have hnn:∀n,Z9 7 l= .inr n→n≤1000000:=fun n hn=>by have:=Zr5 l n hn;omega
 generalize Z9 7 l=r at*;unfold Za6 at hde;cases r with
 |inl ps=>
  unfold D2V at hde;simp only at hde;have hbd:=fun w=>Z0 0 0 rfl w;generalize hP:ZcC K s k (wdR 7 (.inl ps)) w=P at*;have hP2:∀w',InAt w' K s→But K w.heap.size w w'→P (.returned (.tuple #[.string (B (Zc ps)),.int .i64 (7:Nat)])) w':=fun w' h1 h2=>by rw [←hP];exact⟨rfl,h1,h2⟩
  have HP:=Lib.hid hP2;clear hP hP2;generalize B (Zc ps)=T at*;go_enter Tryz.func204,Tryz.ntmps204
  go_wp2_with (first
   |(go_at_call 79;refine(hde _ G0.out).mono ?_;rintro e w2 ⟨rfl,hb2⟩;have X2:=Lib.hid (X0.out.below hb2);have Y2:=Lib.hid (Y0.out.below hb2);have H2:=Lib.hid (H0.out.below hb2);have L2:=Lib.hid (L0.out.trans (hb2.mono L0.out.size));clear hb2;have y0:=Y2.out.cell 0;have y1:=Y2.out.cell 1;have g0:=Y2.out.free 0;have g1:=Y2.out.free 1)
   |(go_at_call 11;refine(hbd _).mono ?_;rintro e w3 ⟨rfl,hb3⟩;have X3:=Lib.hid (((X2.out.set (k:=w.heap.size+1) (by omega) 0 _).set (k:=w.heap.size+1) (by omega) 1 _).below hb3);have Y3:=Lib.hid (((Y2.out.put 0 _).put 1 _).below hb3);have H3:=Lib.hid (((H2.out.set (g:=w.heap.size+1) (by omega) 0 _).set (g:=w.heap.size+1) (by omega) 1 _).below hb3);have L3:=Lib.hid (((L2.out.setCell (p:=⟨w.heap.size+1,0,none⟩) (Nat.le_succ _) _).setCell (p:=⟨w.heap.size+1,1,none⟩) (Nat.le_succ _) _).trans (hb3.mono (by have:=L2.out.size;simpa [World.setCell] using this)));clear hb3;have x30:=X3.out.cell 0;have y30:=Y3.out.cell 0;have y31:=Y3.out.cell 1)
   |(go_at_call 124;refine(hfa _ H3.out).mono ?_;rintro e w4 ⟨rfl,h4,hb4⟩))
  exact HP.out _ H3.out (.of L3.out)
 |inr n=>
  unfold D2V at hde;simp only at hde;have hbd:=fun w=>ZaY 2 n (by decide) w;have hn9:n≤1000000:=hnn n rfl;have hfa:=fun w h=>Za7 K s 2 ((k:Int)+n) (by decide) (by omega) w h;rw [show((2:Int).toNat)=2 from rfl,show((k:Int)+n).toNat=k+n by omega] at hfa;unfold Zh at hfa;generalize hP:ZcC K s k (wdR 7 (.inr n)) w=P at*;have hP2:∀w',InAt w' K (s.fail 2 (k+n))→But K w.heap.size w w'→P (.returned (.tuple #[.string ⟨#[]⟩,.int .i64 0])) w':=fun w' h1 h2=>by rw [←hP];exact⟨rfl,h1,h2⟩
  have HP:=Lib.hid hP2;clear hP hP2;go_enter Tryz.func204,Tryz.ntmps204
  go_wp2_with (first
   |(go_at_call 79;refine(hde _ G0.out).mono ?_;rintro e w2 ⟨rfl,hb2⟩;have X2:=Lib.hid (X0.out.below hb2);have Y2:=Lib.hid (Y0.out.below hb2);have H2:=Lib.hid (H0.out.below hb2);have L2:=Lib.hid (L0.out.trans (hb2.mono L0.out.size));clear hb2;have y0:=Y2.out.cell 0;have y1:=Y2.out.cell 1;have g0:=Y2.out.free 0;have g1:=Y2.out.free 1)
   |(go_at_call 11;refine(hbd _).mono ?_;rintro e w3 ⟨rfl,hb3⟩;have X3:=Lib.hid (((X2.out.set (k:=w.heap.size+1) (by omega) 0 _).set (k:=w.heap.size+1) (by omega) 1 _).below hb3);have Y3:=Lib.hid (((Y2.out.put 0 _).put 1 _).below hb3);have H3:=Lib.hid (((H2.out.set (g:=w.heap.size+1) (by omega) 0 _).set (g:=w.heap.size+1) (by omega) 1 _).below hb3);have L3:=Lib.hid (((L2.out.setCell (p:=⟨w.heap.size+1,0,none⟩) (Nat.le_succ _) _).setCell (p:=⟨w.heap.size+1,1,none⟩) (Nat.le_succ _) _).trans (hb3.mono (by have:=L2.out.size;simpa [World.setCell] using this)));clear hb3;have x30:=X3.out.cell 0;have y30:=Y3.out.cell 0;have y31:=Y3.out.cell 1)
   |(go_at_call 124;refine(hfa _ H3.out).mono ?_;rintro e w4 ⟨rfl,h4,hb4⟩))
  exact HP.out _ h4 ((But.of L3.out).trans (hb4.mono L3.out.size))
end Go.Proofs.YtlhllehffkoloaaGreatDoor
