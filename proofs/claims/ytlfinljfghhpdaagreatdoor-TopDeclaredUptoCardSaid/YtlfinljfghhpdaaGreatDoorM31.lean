/- Lemmas for a statement on the tops; conditions: as each says. -/
import Derived.Test.YtlfinljfghhpdaaGreatDoorM30
set_option linter.unusedVariables false
set_option linter.unusedSimpArgs false
set_option maxRecDepth 100000
set_option maxHeartbeats 4000000
namespace Go.Proofs.YtlfinljfghhpdaaGreatDoor
open Go Go.RowKit
def smB (c:UInt8):Bool:=decide (97≤c.toNat)&&decide (c.toNat≤122)
def nmN (l:List UInt8):Nat:=1+((l.drop 1).takeWhile smB).length
def Za3 (l:List UInt8):Option (List Pc):=
 if l.take 1=[91]∧Lib.indexByte l 93=(l.length:Int) - 1∧nmN l≠1∧l[nmN l]? =some 58 then
  some [mk (l.take (nmN l+1)),(false,(l.take (nmN l)).drop 1,(l.take (l.length - 1)).drop (nmN l+1)),mk [93]]
 else none
theorem ZcR (bk:Nat)(x:ByteArray)(w:World)(h:w.cell? ⟨bk,0,none⟩=some (.string x))(hx:x.size≤35184372089000):
 Calls Tryz.prog 197 #[.slice (some ⟨bk,0,none⟩) 1 1] w fun e w'=>e= .returned (.agg #[.bool true,.string (B Zdv),.string x])∧Below w.heap.size w w':=by
 have hm:=ZgA bk 1 [x.data.toList] w (by
  intro j y hy;cases j with
  |zero=>simp at hy;subst hy;rw [←Zcr];exact h
  |succ j=>simp at hy) (by simp) (by simp) (by simp;exact hx) (by simp)
 simp only [List.flatten_singleton,List.length_singleton,←Zcr] at hm;exact hm
theorem Zlk {l:List UInt8} (hp:l.take 1=[91])(hi:Lib.indexByte l 93=(l.length:Int) - 1):2≤l.length∧l[l.length - 1]? =some 93∧nmN l≤l.length - 1:=by
 have h0:0<l.length:=by cases l<;>simp at hp⊢
 have hg:=(ZhF 93 l (by omega)).1;rw [hi,show((l.length:Int) - 1).toNat=l.length - 1 by omega] at hg;have h2:2≤l.length:=by
  by_cases h:l.length=1
  · rw [h] at hg;cases l with
    |nil=>simp at h0
    |cons b l=>simp at hp hg;rw [hp] at hg;exact absurd hg (by decide)
  · omega
 refine⟨h2,hg,?_⟩;unfold nmN;by_cases h:((l.drop 1).takeWhile smB).length≤l.length - 2
 · omega
 · have hlen:(l.drop 1).length=l.length - 1:=by simp
   have:=Zgf smB (l.drop 1) (l.length - 2) (by omega) (by omega);rw [List.getElem_drop] at this;have e:l[1+(l.length - 2)]'(by omega)=93:=by
    have e1:l[1+(l.length - 2)]? =some 93:=by rw [show 1+(l.length - 2)=l.length - 1 by omega];exact hg
    rw [List.getElem?_eq_getElem (by omega)] at e1;exact Option.some.inj e1
   rw [e] at this;exact absurd this (by decide)
theorem Znd (c:UInt8):smB c=(decide ((97:Int)≤c.toNat)&&decide ((c.toNat:Int)≤122)):=by
 unfold smB;congr 1<;>(rw [decide_eq_decide];omega)
theorem exB (s:ByteArray)(a b:Nat):s.extract a b=B ((s.data.toList.take b).drop a):=by
 conv=>lhs;rw [Zcr s,Zgn]
theorem ZfG {w:World} {a:Addr} {v:Value} (h:w.cell? a=some v)(o:Obj):(w.alloc o).cell? a=some v:=(World.cell?_alloc_lt w o a (World.block_lt_of_cell? _ _ h)).trans h
theorem Z0 {w w':World} {a:Addr} {v:Value} (h:w.cell? a=some v)(hb:Below w.heap.size w w'):w'.cell? a=some v:=(hb.cell (World.block_lt_of_cell? _ _ h)).trans h
theorem Zc0 (w:World)(v:Value)(T:TypeId):(w.alloc (.cells #[v] T)).cell? ⟨w.heap.size,0,none⟩=some v:=by
 rw [cell_of_row _ w.heap.size 0 _ T (0,0) (heap_alloc_new w _)];rfl
theorem Ztm {α:Type} {f:α→List Value} (w:World)(T:TypeId)(l:List α)(h:l≠[]):ZB f (w.alloc (.cells (l.flatMap f).toArray T)) (.slice (some ⟨w.heap.size,0,none⟩) l.length l.length) l:=by
 refine .inr ⟨_,_,h,rfl,Nat.le_refl _,by simp,fun j u hu=> ?_⟩;rw [cell_of_row _ w.heap.size j _ T (0,0) (heap_alloc_new w _)];simpa using hu
def NoRel (m:Nat)(i:Value):Prop:=∃k:Nat,k≤m∧i= .int .i64 ((1+k:Nat):Int)
theorem Zsz (s:ByteArray)(hs:s.size≤100000)(w:World):
 Calls Tryz.prog 314 #[.string s] w (ZdK Za3 s.data.toList w):=by
 generalize hP:ZdK Za3 s.data.toList w=P at*;have hlen:=ZaR s;have hpf:∀w,Calls Tryz.prog 56 #[.string s,.string ⟨#[91]⟩] w fun e w'=>e= .returned (.bool (Lib.hasPrefix s.data.toList [91]))∧w=w':=fun w=>(Tryz.strings_HasPrefix s ⟨#[91]⟩ w).mono fun e w' h=>⟨h.1,h.2.symm⟩
 have hix:∀w,Calls Tryz.prog 360 #[.string s,.string ⟨#[93]⟩] w fun e w'=>e= .returned (.int .i64 (Lib.indexByte s.data.toList 93))∧w=w':=fun w=>(Tryz.strings_Index_one s 93 w).mono fun e w' h=>⟨h.1,h.2.symm⟩
 have hno:Za3 s.data.toList=none→∀w',Below w.heap.size w w'→P (.returned (.tuple #[.slice none 0 0,.bool false])) w':=fun h w' hb=>by
  rw [←hP];exact⟨_,by rw [h];rfl,by rw [h];exact .inl ⟨rfl,rfl⟩,hb⟩
 cases hp:Lib.hasPrefix s.data.toList [91]
 · have Hn:=Lib.hid (hno (by unfold Za3;rw [if_neg (fun h=>ZmB hp h.1)]));rw [hp] at hpf;clear hno hp;go_enter Tryz.func314,Tryz.ntmps314
   go_wp2_with (go_at_call 56;refine(hpf _).mono ?_;rintro e w1 ⟨rfl,rfl⟩)
   exact Hn.out _ (Below.refl _ _)
 · rw [hp] at hpf;have hp1:=(pre1 _ _).1 hp;by_cases hi:Lib.indexByte s.data.toList 93=(s.data.toList.length:Int) - 1
   · obtain⟨g1,g2,g3⟩:=Zlk hp1 hi;rw [hi,hlen] at hix;rw [hlen] at g1 g2 g3;obtain⟨m,hm⟩:∃m,m=((s.data.toList.drop 1).takeWhile smB).length:=⟨_,rfl⟩
     have hnm:nmN s.data.toList=1+m:=by unfold nmN;rw [hm]
     rw [hnm] at g3;have hks:1+m<s.size:=by omega
     have hls:s.size - 1<s.size:=by omega
     have hin:∀k,k<m→∀h:1+k<s.size,decide ((97:Int)≤(s[1+k]).toNat)=true∧decide (((s[1+k]).toNat:Int)≤122)=true:=fun k hk h=>by
      have:=Zgf smB (s.data.toList.drop 1) k (by rw [List.length_drop,hlen];omega) (by omega);rw [Zfq s 1 k (by rw [List.length_drop,hlen];omega) h,Znd] at this;simpa using this
     have hout:∀h:1+m<s.size,(decide ((97:Int)≤(s[1+m]).toNat)&&decide (((s[1+m]).toNat:Int)≤122))=false:=fun h=>by
      have:=ZiA smB (s.data.toList.drop 1) (by rw [List.length_drop,hlen,←hm];omega);have e:(s.data.toList.drop 1)[((s.data.toList.drop 1).takeWhile smB).length]'(by rw [List.length_drop,hlen,←hm];omega)=s[1+m]:=by
       rw [Zfq s 1 _ (by rw [List.length_drop,hlen,←hm];omega) (by rw [←hm];exact h)];simp only [←hm]
      rw [e,Znd] at this;exact this
     have g58:=get_eq s (1+m) hks 58;have hL:Za3 s.data.toList=if m≠0∧s[1+m]'hks=58 then some [mk (s.data.toList.take (1+m+1)),(false,(s.data.toList.take (1+m)).drop 1,(s.data.toList.take (s.size - 1)).drop (1+m+1)),mk [93]] else none:=by
      unfold Za3;rw [hnm,hlen];by_cases hc:m≠0∧s[1+m]'hks=58
      · rw [if_pos hc,if_pos ⟨hp1,by rw [hi,hlen],by omega,g58.2 hc.2⟩]
      · rw [if_neg hc,if_neg (fun h=>hc ⟨by omega,g58.1 h.2.2.2⟩)]
     have G93:=Lib.hid ((get_eq s (s.size - 1) hls 93).1 g2);have Hin:=Lib.hid hin;have Hout:=Lib.hid (hout hks);have HL:=Lib.hid hL;have hne1:((s.size:Int) - 1 !=(s.size:Int) - 1)=false:=by simp
     clear hin hout hL g58 hp1 hp hi g2 hm hnm;go_enter Tryz.func314,Tryz.ntmps314
     go_wp2_with (first|(go_at_call 56;refine(hpf _).mono ?_;rintro e w1 ⟨rfl,rfl⟩)|(go_at_call 360;refine(hix _).mono ?_;rintro e w1 ⟨rfl,rfl⟩))
     go_loop [4] (fun i=>NoRel m i) (fun i=>s.size - (intOf i).toNat)
     case atStart=>exact⟨0,by omega,rfl⟩
     case round=>
      obtain⟨k,hk,rfl⟩:=hrel;have hks2:1+k<s.size:=by omega
      by_cases hkm:k<m
      · obtain⟨a1,a2⟩:=Hin.out k hkm hks2;go_wp2_with fail
        go_round
        case rel=>exact⟨k+1,by omega,by go_num⟩
        case measure=>simp [intOf];omega
      · have hk2:k=m:=by omega
        subst hk2;clear hkm;have hno2:¬(k≠0∧s[1+k]'hks=58)→∀w',Below w.heap.size w w'→P (.returned (.tuple #[.slice none 0 0,.bool false])) w':=fun h=>hno (by rw [HL.out,if_neg h]);by_cases hgood:k≠0∧s[1+k]'hks=58
        · obtain⟨hk0,h58⟩:=hgood;have hA:decide ((97:Int)≤(s[1+k]).toNat)=false:=by rw [h58];rfl
          have c0:(1+(k:Int)==1)=false:=by rw [beq_eq_false_iff_ne];omega
          have c58:(((s[1+k]).toNat:Int) !=58)=false:=by rw [h58];rfl
          have Hres:=Lib.hid (show Za3 s.data.toList=some [mk (s.data.toList.take (1+k+1)),(false,(s.data.toList.take (1+k)).drop 1,(s.data.toList.take (s.size - 1)).drop (1+k+1)),mk [93]] by rw [HL.out,if_pos ⟨hk0,h58⟩]);have hq:1+k+1<s.size:=by
           by_cases e:1+k=s.size - 1
           · have:=G93.out;simp only [←e] at this;rw [h58] at this;exact absurd this (by decide)
           · omega
          clear HL hno2 h58 hno G93;have e1:IntKind.i64.wrap (1+(k:Int)+1)=1+(k:Int)+1:=IntWalk.i64_in _ (by omega);have e2:(1+(k:Int)+1).toNat=1+k+1:=by omega
          have e3:(1+(k:Int)).toNat=1+k:=by omega
          have e4:IntKind.i64.wrap ((s.size:Int) - 1)=(s.size:Int) - 1:=IntWalk.i64_in _ (by omega);have e5:((s.size:Int) - 1).toNat=s.size - 1:=by omega
          have z1:(s.extract 0 (1+k+1)).size≤35184372089000:=by simp;omega
          have z2:(⟨#[93]⟩:ByteArray).size≤35184372089000:=by decide
          have fin8:∀(W:World),Below w.heap.size w W→P (.returned (.tuple #[.slice (some ⟨W.heap.size,0,none⟩) 3 3,.bool true])) (W.alloc (.cells #[.bool true,.string (B Zdv),.string (s.extract 0 (1+k+1)),.bool false,.string (s.extract 1 (1+k)),.string (s.extract (1+k+1) (s.size - 1)),.bool true,.string (B Zdv),.string ⟨#[93]⟩] 167)):=fun W hb=>by
           rw [←hP];refine⟨_,by rw [Hres.out];rfl,?_,hb.alloc hb.size _⟩;rw [Hres.out,exB,exB,exB];exact Ztm (f:=pcV) W 167 [mk (s.data.toList.take (1+k+1)),(false,(s.data.toList.take (1+k)).drop 1,(s.data.toList.take (s.size - 1)).drop (1+k+1)),mk [93]] (by simp)
          have hB0:Below w.heap.size w w.drew:=(Below.refl _ _).drew;have Fin8:=Lib.hid fin8;clear hP Hres fin8;go_wp2_with fail
          refine ZeX (fun _=>True) (.one 0 true (.one 1 true (.one 2 true (.one 3 true (.one 6 true (.one 7 true (.one 8 true (.one 9 true (.one 10 true (.one 11 true (.one 12 true (.one 13 true (.one 14 true (.one 15 true (.two 4 17 (.two 5 17 (.two 16 17 (.one 17 false (.one 18 false (.one 19 false (.one 20 true (.one 21 true .nil))))) (.one 16 false (.one 18 false (.one 19 false (.one 20 true (.one 21 true .nil)))))) (.one 5 false (.one 16 false (.one 18 false (.one 19 false (.one 20 true (.one 21 true .nil))))))) (.one 4 false (.one 5 false (.one 16 false (.one 18 false (.one 19 false (.one 20 true (.one 21 true .nil)))))))))))))))))))))) (by kernel_rfl) (by kernel_rfl) (by kernel_rfl) (Nat.le_of_ble_eq_true rfl) (fun _ _ d _ _ h=>by cases d<;>exact h) trivial ?_;generalize w.drew=W0 at*;refine' Zg rfl (by rfl) _ (fun w hSw=>_) _
          rotate_left
          · go_simp
            try with_reducible rfl
          try simp only [Act.put,List.setIfInBounds_toArray,List.set_cons_zero,List.set_cons_succ]
          refine' Zg rfl (by rfl) _ (fun w hSw=>_) _
          rotate_left
          · go_simp
            try with_reducible rfl
          try simp only [Act.put,List.setIfInBounds_toArray,List.set_cons_zero,List.set_cons_succ]
          refine Zg rfl (by rfl) (.int .i64 (1+(k:Int)+1)) (fun w hSw=>by go_simp;try rw [e1]) ?_
          try simp only [Act.put,List.setIfInBounds_toArray,List.set_cons_zero,List.set_cons_succ]
          refine Zg rfl (by rfl) (.string (s.extract 0 (1+k+1))) (fun w hSw=>by go_simp;intro h;omega) ?_
          try simp only [Act.put,List.setIfInBounds_toArray,List.set_cons_zero,List.set_cons_succ]
          refine' Zg rfl (by rfl) _ (fun w hSw=>_) _
          rotate_left
          · go_simp
            try with_reducible rfl
          try simp only [Act.put,List.setIfInBounds_toArray,List.set_cons_zero,List.set_cons_succ]
          refine' Zg rfl (by rfl) _ (fun w hSw=>_) _
          rotate_left
          · go_simp
            try with_reducible rfl
          try simp only [Act.put,List.setIfInBounds_toArray,List.set_cons_zero,List.set_cons_succ]
          refine Zg rfl (by rfl) (.string (s.extract 1 (1+k))) (fun w hSw=>by go_simp;rw [if_pos (by omega),if_pos (by omega)]) ?_
          try simp only [Act.put,List.setIfInBounds_toArray,List.set_cons_zero,List.set_cons_succ]
          refine' Zg rfl (by rfl) _ (fun w hSw=>_) _
          rotate_left
          · go_simp
            try with_reducible rfl
          try simp only [Act.put,List.setIfInBounds_toArray,List.set_cons_zero,List.set_cons_succ]
          refine' Zg rfl (by rfl) _ (fun w hSw=>_) _
          rotate_left
          · go_simp
            try with_reducible rfl
          try simp only [Act.put,List.setIfInBounds_toArray,List.set_cons_zero,List.set_cons_succ]
          refine Zg rfl (by rfl) (.int .i64 (1+(k:Int)+1)) (fun w hSw=>by go_simp;try rw [e1]) ?_
          try simp only [Act.put,List.setIfInBounds_toArray,List.set_cons_zero,List.set_cons_succ]
          refine' Zg rfl (by rfl) _ (fun w hSw=>_) _
          rotate_left
          · go_simp
            try with_reducible rfl
          try simp only [Act.put,List.setIfInBounds_toArray,List.set_cons_zero,List.set_cons_succ]
          refine' Zg rfl (by rfl) _ (fun w hSw=>_) _
          rotate_left
          · go_simp
            try with_reducible rfl
          try simp only [Act.put,List.setIfInBounds_toArray,List.set_cons_zero,List.set_cons_succ]
          refine Zg rfl (by rfl) (.int .i64 ((s.size:Int) - 1)) (fun w hSw=>by go_simp;try rw [e4]) ?_
          try simp only [Act.put,List.setIfInBounds_toArray,List.set_cons_zero,List.set_cons_succ]
          refine Zg rfl (by rfl) (.string (s.extract (1+k+1) (s.size - 1))) (fun w hSw=>by go_simp;rw [if_pos (by omega),if_pos (by omega)]) ?_
          try simp only [Act.put,List.setIfInBounds_toArray,List.set_cons_zero,List.set_cons_succ]
          refine Zh6 ?_ ?_
          · refine ZU rfl (by rfl) (fun K hK=> ?_)
            go_simp
            go_wp2_with fail
            have hA_1:=Zc0 W0 (.string (s.extract 0 (1+k+1))) 9;have hB1:=hB0.alloc hB0.size (.cells #[.string (s.extract 0 (1+k+1))] 9);refine hK.out _ _ trivial ?_;clear hK K
            try simp only [Act.put,List.setIfInBounds_toArray,List.set_cons_zero,List.set_cons_succ]
            generalize W0.alloc (.cells #[.string (s.extract 0 (1+k+1))] 9)=W1 at*;refine Zh6 ?_ ?_
            · refine ZU rfl (by rfl) (fun K hK=> ?_)
              go_simp
              refine(ZcR _ (s.extract 0 (1+k+1)) _ hA_1 z1).mono ?_;rintro e W2 ⟨rfl,hb2⟩;have hA_2:=Z0 hA_1 hb2;have hB2:=hB1.trans (hb2.mono hB1.size);go_wp2_with fail
              refine hK.out _ _ trivial ?_;clear hK K
              try simp only [Act.put,List.setIfInBounds_toArray,List.set_cons_zero,List.set_cons_succ]
              refine Zh6 ?_ ?_
              · refine ZU rfl (by rfl) (fun K hK=> ?_)
                go_simp
                refine(Zen _ _ _).mono ?_;rintro e W3 ⟨rfl,hb3⟩;have hA_3:=Z0 hA_2 hb3;have hB3:=hB2.trans (hb3.mono hB2.size);go_wp2_with fail
                refine hK.out _ _ trivial ?_;clear hK K
                try simp only [Act.put,List.setIfInBounds_toArray,List.set_cons_zero,List.set_cons_succ]
                refine Zaf (ZU rfl (by rfl) (fun K hK=> ?_))
                go_simp
                go_wp2_with fail
                have hA_4:=ZfG hA_3 (.cells #[.string ⟨#[93]⟩] 9);have hZ_4:=Zc0 W3 (.string ⟨#[93]⟩) 9;have hB4:=hB3.alloc hB3.size (.cells #[.string ⟨#[93]⟩] 9);refine hK.out _ _ trivial ?_;clear hK K
                try simp only [Act.put,List.setIfInBounds_toArray,List.set_cons_zero,List.set_cons_succ]
                generalize W3.alloc (.cells #[.string ⟨#[93]⟩] 9)=W4 at*;refine Zaf (ZU rfl (by rfl) (fun K hK=> ?_))
                go_simp
                refine(ZcR _ ⟨#[93]⟩ _ hZ_4 z2).mono ?_;rintro e W5 ⟨rfl,hb5⟩;have hA_5:=Z0 hA_4 hb5;have hZ_5:=Z0 hZ_4 hb5;have hB5:=hB4.trans (hb5.mono hB4.size);go_wp2_with fail
                refine hK.out _ _ trivial ?_;clear hK K
                try simp only [Act.put,List.setIfInBounds_toArray,List.set_cons_zero,List.set_cons_succ]
                refine Zaf (ZU rfl (by rfl) (fun K hK=> ?_))
                go_simp
                go_wp2_with fail
                refine hK.out _ _ trivial ?_;clear hK K
                try simp only [Act.put,List.setIfInBounds_toArray,List.set_cons_zero,List.set_cons_succ]
                refine' Zg rfl (by rfl) _ (fun w hSw=>_) _
                rotate_left
                · go_simp
                  try with_reducible rfl
                try simp only [Act.put,List.setIfInBounds_toArray,List.set_cons_zero,List.set_cons_succ]
                refine' Zg rfl (by rfl) _ (fun w hSw=>_) _
                rotate_left
                · go_simp
                  try with_reducible rfl
                try simp only [Act.put,List.setIfInBounds_toArray,List.set_cons_zero,List.set_cons_succ]
                refine Zc3 ?_;go_wp2_with fail
                exact Fin8.out W5 hB5
              · refine ZU rfl (by rfl) (fun K hK=> ?_)
                go_simp
                go_wp2_with fail
                have hA_7:=ZfG hA_2 (.cells #[.string ⟨#[93]⟩] 9);have hZ_7:=Zc0 W2 (.string ⟨#[93]⟩) 9;have hB7:=hB2.alloc hB2.size (.cells #[.string ⟨#[93]⟩] 9);refine hK.out _ _ trivial ?_;clear hK K
                try simp only [Act.put,List.setIfInBounds_toArray,List.set_cons_zero,List.set_cons_succ]
                generalize W2.alloc (.cells #[.string ⟨#[93]⟩] 9)=W7 at*;refine Zaf (ZU rfl (by rfl) (fun K hK=> ?_))
                go_simp
                refine(Zen _ _ _).mono ?_;rintro e W8 ⟨rfl,hb8⟩;have hA_8:=Z0 hA_7 hb8;have hZ_8:=Z0 hZ_7 hb8;have hB8:=hB7.trans (hb8.mono hB7.size);go_wp2_with fail
                refine hK.out _ _ trivial ?_;clear hK K
                try simp only [Act.put,List.setIfInBounds_toArray,List.set_cons_zero,List.set_cons_succ]
                refine Zaf (ZU rfl (by rfl) (fun K hK=> ?_))
                go_simp
                refine(ZcR _ ⟨#[93]⟩ _ hZ_8 z2).mono ?_;rintro e W9 ⟨rfl,hb9⟩;have hA_9:=Z0 hA_8 hb9;have hZ_9:=Z0 hZ_8 hb9;have hB9:=hB8.trans (hb9.mono hB8.size);go_wp2_with fail
                refine hK.out _ _ trivial ?_;clear hK K
                try simp only [Act.put,List.setIfInBounds_toArray,List.set_cons_zero,List.set_cons_succ]
                refine Zaf (ZU rfl (by rfl) (fun K hK=> ?_))
                go_simp
                go_wp2_with fail
                refine hK.out _ _ trivial ?_;clear hK K
                try simp only [Act.put,List.setIfInBounds_toArray,List.set_cons_zero,List.set_cons_succ]
                refine' Zg rfl (by rfl) _ (fun w hSw=>_) _
                rotate_left
                · go_simp
                  try with_reducible rfl
                try simp only [Act.put,List.setIfInBounds_toArray,List.set_cons_zero,List.set_cons_succ]
                refine' Zg rfl (by rfl) _ (fun w hSw=>_) _
                rotate_left
                · go_simp
                  try with_reducible rfl
                try simp only [Act.put,List.setIfInBounds_toArray,List.set_cons_zero,List.set_cons_succ]
                refine Zc3 ?_;go_wp2_with fail
                exact Fin8.out W9 hB9
            · refine ZU rfl (by rfl) (fun K hK=> ?_)
              go_simp
              go_wp2_with fail
              have hA_11:=ZfG hA_1 (.cells #[.string ⟨#[93]⟩] 9);have hZ_11:=Zc0 W1 (.string ⟨#[93]⟩) 9;have hB11:=hB1.alloc hB1.size (.cells #[.string ⟨#[93]⟩] 9);refine hK.out _ _ trivial ?_;clear hK K
              try simp only [Act.put,List.setIfInBounds_toArray,List.set_cons_zero,List.set_cons_succ]
              generalize W1.alloc (.cells #[.string ⟨#[93]⟩] 9)=W11 at*;refine Zaf (ZU rfl (by rfl) (fun K hK=> ?_))
              go_simp
              refine(ZcR _ (s.extract 0 (1+k+1)) _ hA_11 z1).mono ?_;rintro e W12 ⟨rfl,hb12⟩;have hA_12:=Z0 hA_11 hb12;have hZ_12:=Z0 hZ_11 hb12;have hB12:=hB11.trans (hb12.mono hB11.size);go_wp2_with fail
              refine hK.out _ _ trivial ?_;clear hK K
              try simp only [Act.put,List.setIfInBounds_toArray,List.set_cons_zero,List.set_cons_succ]
              refine Zaf (ZU rfl (by rfl) (fun K hK=> ?_))
              go_simp
              refine(Zen _ _ _).mono ?_;rintro e W13 ⟨rfl,hb13⟩;have hA_13:=Z0 hA_12 hb13;have hZ_13:=Z0 hZ_12 hb13;have hB13:=hB12.trans (hb13.mono hB12.size);go_wp2_with fail
              refine hK.out _ _ trivial ?_;clear hK K
              try simp only [Act.put,List.setIfInBounds_toArray,List.set_cons_zero,List.set_cons_succ]
              refine Zaf (ZU rfl (by rfl) (fun K hK=> ?_))
              go_simp
              refine(ZcR _ ⟨#[93]⟩ _ hZ_13 z2).mono ?_;rintro e W14 ⟨rfl,hb14⟩;have hA_14:=Z0 hA_13 hb14;have hZ_14:=Z0 hZ_13 hb14;have hB14:=hB13.trans (hb14.mono hB13.size);go_wp2_with fail
              refine hK.out _ _ trivial ?_;clear hK K
              try simp only [Act.put,List.setIfInBounds_toArray,List.set_cons_zero,List.set_cons_succ]
              refine Zaf (ZU rfl (by rfl) (fun K hK=> ?_))
              go_simp
              go_wp2_with fail
              refine hK.out _ _ trivial ?_;clear hK K
              try simp only [Act.put,List.setIfInBounds_toArray,List.set_cons_zero,List.set_cons_succ]
              refine' Zg rfl (by rfl) _ (fun w hSw=>_) _
              rotate_left
              · go_simp
                try with_reducible rfl
              try simp only [Act.put,List.setIfInBounds_toArray,List.set_cons_zero,List.set_cons_succ]
              refine' Zg rfl (by rfl) _ (fun w hSw=>_) _
              rotate_left
              · go_simp
                try with_reducible rfl
              try simp only [Act.put,List.setIfInBounds_toArray,List.set_cons_zero,List.set_cons_succ]
              refine Zc3 ?_;go_wp2_with fail
              exact Fin8.out W14 hB14
          · refine ZU rfl (by rfl) (fun K hK=> ?_)
            go_simp
            go_wp2_with fail
            have hZ_16:=Zc0 W0 (.string ⟨#[93]⟩) 9;have hB16:=hB0.alloc hB0.size (.cells #[.string ⟨#[93]⟩] 9);refine hK.out _ _ trivial ?_;clear hK K
            try simp only [Act.put,List.setIfInBounds_toArray,List.set_cons_zero,List.set_cons_succ]
            generalize W0.alloc (.cells #[.string ⟨#[93]⟩] 9)=W16 at*;refine Zaf (ZU rfl (by rfl) (fun K hK=> ?_))
            go_simp
            go_wp2_with fail
            have hZ_17:=ZfG hZ_16 (.cells #[.string (s.extract 0 (1+k+1))] 9);have hA_17:=Zc0 W16 (.string (s.extract 0 (1+k+1))) 9;have hB17:=hB16.alloc hB16.size (.cells #[.string (s.extract 0 (1+k+1))] 9);refine hK.out _ _ trivial ?_;clear hK K
            try simp only [Act.put,List.setIfInBounds_toArray,List.set_cons_zero,List.set_cons_succ]
            generalize W16.alloc (.cells #[.string (s.extract 0 (1+k+1))] 9)=W17 at*;refine Zaf (ZU rfl (by rfl) (fun K hK=> ?_))
            go_simp
            refine(ZcR _ (s.extract 0 (1+k+1)) _ hA_17 z1).mono ?_;rintro e W18 ⟨rfl,hb18⟩;have hZ_18:=Z0 hZ_17 hb18;have hA_18:=Z0 hA_17 hb18;have hB18:=hB17.trans (hb18.mono hB17.size);go_wp2_with fail
            refine hK.out _ _ trivial ?_;clear hK K
            try simp only [Act.put,List.setIfInBounds_toArray,List.set_cons_zero,List.set_cons_succ]
            refine Zaf (ZU rfl (by rfl) (fun K hK=> ?_))
            go_simp
            refine(Zen _ _ _).mono ?_;rintro e W19 ⟨rfl,hb19⟩;have hZ_19:=Z0 hZ_18 hb19;have hA_19:=Z0 hA_18 hb19;have hB19:=hB18.trans (hb19.mono hB18.size);go_wp2_with fail
            refine hK.out _ _ trivial ?_;clear hK K
            try simp only [Act.put,List.setIfInBounds_toArray,List.set_cons_zero,List.set_cons_succ]
            refine Zaf (ZU rfl (by rfl) (fun K hK=> ?_))
            go_simp
            refine(ZcR _ ⟨#[93]⟩ _ hZ_19 z2).mono ?_;rintro e W20 ⟨rfl,hb20⟩;have hZ_20:=Z0 hZ_19 hb20;have hA_20:=Z0 hA_19 hb20;have hB20:=hB19.trans (hb20.mono hB19.size);go_wp2_with fail
            refine hK.out _ _ trivial ?_;clear hK K
            try simp only [Act.put,List.setIfInBounds_toArray,List.set_cons_zero,List.set_cons_succ]
            refine Zaf (ZU rfl (by rfl) (fun K hK=> ?_))
            go_simp
            go_wp2_with fail
            refine hK.out _ _ trivial ?_;clear hK K
            try simp only [Act.put,List.setIfInBounds_toArray,List.set_cons_zero,List.set_cons_succ]
            refine' Zg rfl (by rfl) _ (fun w hSw=>_) _
            rotate_left
            · go_simp
              try with_reducible rfl
            try simp only [Act.put,List.setIfInBounds_toArray,List.set_cons_zero,List.set_cons_succ]
            refine' Zg rfl (by rfl) _ (fun w hSw=>_) _
            rotate_left
            · go_simp
              try with_reducible rfl
            try simp only [Act.put,List.setIfInBounds_toArray,List.set_cons_zero,List.set_cons_succ]
            refine Zc3 ?_;go_wp2_with fail
            exact Fin8.out W20 hB20
        · have Hn:=Lib.hid (hno2 hgood);clear HL hno2 hno;cases hA:decide ((97:Int)≤(s[1+k]).toNat)
          · by_cases hk0:k=0
            · subst hk0;go_wp2_with fail
              exact Hn.out _ (Below.refl _ _)
            · have c0:(1+(k:Int)==1)=false:=by rw [beq_eq_false_iff_ne];omega
              have c58:(((s[1+k]).toNat:Int) !=58)=true:=(ZcZ (n:=58) (Zc8 (fun e=>hgood ⟨hk0,e⟩))).1;clear hgood;go_wp2_with fail
              exact Hn.out _ (Below.refl _ _)
          · have hB:decide (((s[1+k]).toNat:Int)≤122)=false:=by
             have:=Hout.out;rw [hA] at this;simpa using this
            by_cases hk0:k=0
            · subst hk0;go_wp2_with fail
              exact Hn.out _ (Below.refl _ _)
            · have c0:(1+(k:Int)==1)=false:=by rw [beq_eq_false_iff_ne];omega
              have c58:(((s[1+k]).toNat:Int) !=58)=true:=(ZcZ (n:=58) (Zc8 (fun e=>hgood ⟨hk0,e⟩))).1;clear hgood;go_wp2_with fail
              exact Hn.out _ (Below.refl _ _)
   · have Hn:=Lib.hid (hno (by unfold Za3;rw [if_neg (fun h=>hi h.2.1)]));have hne1:(Lib.indexByte s.data.toList 93 !=(s.size:Int) - 1)=true:=by rw [←hlen];simpa using hi
     clear hno hi hp1 hp;generalize Lib.indexByte s.data.toList 93=q at*;go_enter Tryz.func314,Tryz.ntmps314
     go_wp2_with (first|(go_at_call 56;refine(hpf _).mono ?_;rintro e w1 ⟨rfl,rfl⟩)|(go_at_call 360;refine(hix _).mono ?_;rintro e w1 ⟨rfl,rfl⟩))
     exact Hn.out _ (Below.refl _ _)
theorem Zqi (f:List UInt8→Option (List Pc))(K:World→Prop)(hK:∀w w',K w→Below w.heap.size w w'→K w')(hf:∀(s:List UInt8) (w:World),s.length≤100000→K w→Calls Tryz.prog 242 #[.string (B s)] w (ZdK f s w))(hlen:∀s ps,f s=some ps→ps.length≤4*s.length+4)
 (s:ByteArray) (hs:s.size≤100000) (w:World) (hKw:K w):
 Calls Tryz.prog 239 #[.string s,.func (.func 242) #[] #[]] w (Zfi f s.data.toList w):=by
 generalize hP:Zfi f s.data.toList w=P at*;obtain⟨i0,hi,iz0,iz1,iz2⟩:=info_parts Zmu;have hl0:=ZaR s;go_enter Tryz.func239,Tryz.ntmps239
 go_wp2_with fail
 go_loopw [6,7] (fun v i wr=>WkRel f s.data.toList w v i wr) (fun _ i _=>s.size - (intOf i).toNat)
 case atStart=>exact⟨[],0,s.data.toList.length,by omega,rfl,(pre_nil _).symm,by omega,by simp,⟨rfl,.inl ⟨rfl,rfl⟩⟩,fun _=>rfl,Below.refl _ _⟩
 case round=>
  obtain⟨acc,k,fu,hk,rfl,hl,hfu,ha,hown,h0,hb⟩:=hrel;rw [hl0] at hk hfu;obtain⟨fc0,fc1,ff0,ff1,hz⟩:=Zbu hb;by_cases hlt:k<s.size
  · have hnx:=fun w=>Zju s k (by omega) (by omega) w;unfold Zfa at hnx;have hrl:(s.data.toList.drop k).length=s.size - k:=by rw [List.length_drop,hl0]
    have hne:s.data.toList.drop k≠[]:=by intro e;rw [e] at hrl;simp at hrl;omega
    have hpos:=Zft hne;have hle:=ZfL (s.data.toList.drop k);obtain⟨fu',rfl⟩:∃fu',fu=fu'+1:=⟨fu - 1,by omega⟩
    obtain⟨hn,hy⟩:=ZuU (by omega) hl;have s1:=Zy (lnT (s.data.toList.drop k));have s2:=Zy (lnE (s.data.toList.drop k));rw [hrl] at hle;have hKr:K wr:=by
     have h1:Below w.heap.size w wr:=Zf (by simpa using hb);exact hK _ _ hKw h1
    clear hl hne hrl;generalize hT:lnT (s.data.toList.drop k)=T at*;generalize lnE (s.data.toList.drop k)=E at*;have hcl:=fun w h=>hf T w (by omega) h;clear hT;cases hfT:f T with
    |none=>
     have Hr:=Lib.hid (hn hfT);have hcl2:∀w,K w→Calls Tryz.prog 242 #[.string (B T)] w fun e w'=>e= .returned (.tuple #[.slice none 0 0,.bool false])∧Below w.heap.size w w':=fun w h=>(hcl w h).mono fun e w' ⟨v,h1,h2,h3⟩=>by
      rw [hfT] at h1 h2;rcases h2 with⟨_,rfl⟩|⟨_,_,h4,_⟩
      · exact⟨h1,h3⟩
      · exact absurd rfl h4
     clear hn hy hcl hfT hown h0;go_wp2_with (first|(go_at_call 294;refine(hnx _).mono ?_;rintro e w1 ⟨rfl,hb1⟩;have hK1:=hK _ _ hKr hb1;have hz1:=hb1.size;have HB1:=hb.trans (hb1.mono (B':=w.heap.size+1) (by omega)))|(go_at_call 242;refine(hcl2 _ (hK _ _ hK1 ((Below.refl _ _).alloc (Nat.le_refl _) _))).mono ?_;rintro e w2 ⟨rfl,hb2⟩;have hz2:=Zag hb2;have HB2:=(HB1.alloc (by omega) _).trans (hb2.mono (by simp;omega));obtain⟨gc0,gc1,gf0,gf1,hlt2⟩:=Zbu HB2))
     refine bodyPost_ret (v:= .tuple #[.slice none 0 0,.agg #[.int .i64 1,.int .i64 k]]) (by simp [results,Tryz.results239,go_sem,gc0,gc1]) rfl ?_;rw [←hP];refine⟨_,1,k,rfl,.inr ⟨k,Hr.out,rfl,rfl,rfl⟩,?_⟩;exact((((Below.refl _ w).alloc (Nat.le_refl _) _).trans (HB2.mono (by omega))).setCell (Nat.le_refl _) _).setCell (Nat.le_refl _) _
    |some ps=>
     have hlp:=hlen _ _ hfT;have Hy:=Lib.hid (hy ps hfT);clear hn hy;cases ps with
     |nil=>
      have hcl2:∀w,K w→Calls Tryz.prog 242 #[.string (B T)] w fun e w'=>e= .returned (.tuple #[.slice none 0 0,.bool true])∧Below w.heap.size w w':=fun w h=>(hcl w h).mono fun e w' ⟨v,h1,h2,h3⟩=>by
       rw [hfT] at h1 h2;rcases h2 with⟨_,rfl⟩|⟨_,_,h4,_⟩
       · exact⟨h1,h3⟩
       · exact absurd rfl h4
      clear hcl hfT;by_cases hE:E=[]
      · have hEi:(B E).toList.isEmpty=true:=by rw [ByteArray.toList_eq,ZQ];rw [hE];rfl
        have HE:=Lib.hid hE;clear hE;go_wp2_with (first|(go_at_call 294;refine(hnx _).mono ?_;rintro e w1 ⟨rfl,hb1⟩;have hK1:=hK _ _ hKr hb1;have hz1:=hb1.size;have HB1:=hb.trans (hb1.mono (B':=w.heap.size+1) (by omega)))|(go_at_call 242;refine(hcl2 _ (hK _ _ hK1 ((Below.refl _ _).alloc (Nat.le_refl _) _))).mono ?_;rintro e w2 ⟨rfl,hb2⟩;have hz2:=Zag hb2;have HB2:=(HB1.alloc (by omega) _).trans (hb2.mono (by simp;omega));have hown2:=Zt ((Zt hown hb1).alloc _) hb2;have hbx:=Zdq (heap_alloc_new w1 (.cells #[.string (B T),.string (B E),.int .i64 k] 262)) hb2;obtain⟨bc0,bc1,bc2⟩:=cells3 hbx)|(at_builtin;refine wpList_append_own_none rfl _ _ 72 rfl (w.heap.size+1) 167 i0 3 Tryz.underlying72 hi _ acc.length _ rfl hown2 rfl ?_))
        have hbx3:=hbx;obtain⟨cc0,cc1,cc2⟩:=cells3 hbx3;have Hown3:=Lib.hid hown2;clear hown2 hbx;go_roundw
        case rel=>
         refine⟨acc,k+(T.length+E.length),fu',by omega,by simp,?_,by omega,?_,?_,?_,HB2⟩
         · rw [Hy.out];rw [HE.out];simp [Zby]
         · simp at hlp⊢;omega
         · exact Hown3.out
         · exact h0
        case measure=>simp [intOf];omega
      · have hEi:(B E).toList.isEmpty=false:=by rw [ByteArray.toList_eq,ZQ];cases E with|nil=>exact absurd rfl hE|cons _ _=>rfl
        have HE:=Lib.hid hE;clear hE;go_wp2_with (first|(go_at_call 294;refine(hnx _).mono ?_;rintro e w1 ⟨rfl,hb1⟩;have hK1:=hK _ _ hKr hb1;have hz1:=hb1.size;have HB1:=hb.trans (hb1.mono (B':=w.heap.size+1) (by omega)))|(go_at_call 242;refine(hcl2 _ (hK _ _ hK1 ((Below.refl _ _).alloc (Nat.le_refl _) _))).mono ?_;rintro e w2 ⟨rfl,hb2⟩;have hz2:=Zag hb2;have HB2:=(HB1.alloc (by omega) _).trans (hb2.mono (by simp;omega));have hown2:=Zt ((Zt hown hb1).alloc _) hb2;have hbx:=Zdq (heap_alloc_new w1 (.cells #[.string (B T),.string (B E),.int .i64 k] 262)) hb2;obtain⟨bc0,bc1,bc2⟩:=cells3 hbx)|(at_builtin;refine wpList_append_own_none rfl _ _ 72 rfl (w.heap.size+1) 167 i0 3 Tryz.underlying72 hi _ acc.length _ rfl hown2 rfl ?_))
        have hbx3:=hbx;obtain⟨cc0,cc1,cc2⟩:=cells3 hbx3;have Hown3:=Lib.hid hown2;clear hown2 hbx;have hmk:=fun w (hw:∀(j:Nat) x,[E][j]? =some x→w.cell? ⟨w2.heap.size,j,none⟩=some (.string (B x)))=>ZgA w2.heap.size 1 [E] w hw (by simp) (by simp) (by simp;omega) (by simp);have hnw:=Lib.hid (Zl6 w2 E);simp only [List.flatten_singleton,List.length_singleton] at hmk;go_wp2_with (first|(go_at_call 197;refine(hmk _ hnw.out).mono ?_;rintro e w4 ⟨rfl,hb4⟩;have hz4:=Zag hb4;have hown4:=Zt (Hown3.out.alloc _) hb4;have HB4:=(HB2.alloc (by omega) _).trans (hb4.mono (by simp;omega));have hbx4:=Zdq (ZeA hbx3 _) hb4)|(at_builtin;refine wpList_append_own _ rfl _ _ 72 rfl (w.heap.size+1) 167 i0 _ 3 40 Tryz.underlying72 hi iz0 iz1 iz2 rfl (by decide) _ _ _ rfl (hown4.alloc _) ⟨w4.heap.size,0,none⟩ 1 1 (pcV (mk E)) rfl rfl ?d1 ?d2 ?d3 ?d4 ?d5 ?_))
        case d1=>exact Zcn w4 _ _ _ _
        case d2=>intro u hu;simp only [pcV,List.mem_cons,List.not_mem_nil,or_false] at hu;rcases hu with rfl|rfl|rfl<;>rfl
        case d3=>unfold maxLen;omega
        case d4=>omega
        case d5=>simp;omega
        intro v5 w5 hown5 hg5 h05;have hbx5:=Zez (ZeA hbx4 _) hg5 (ZfT hown4 hbx4);obtain⟨dc0,dc1,dc2⟩:=cells3 hbx5;have HB5:=Z3 (HB4.alloc (by omega) _) (hown4.alloc _) hg5 (by simp;omega) (Nat.le_refl _);have Hown5:=Lib.hid hown5;clear hown5 h05 hown4 hg5 hbx4 hbx5 hbx3 cc0 cc1 cc2 bc0 bc1 bc2;go_wp2_with fail
        go_roundw
        case rel=>
         refine⟨acc++[mk E],k+(T.length+E.length),fu',by omega,by simp,?_,by omega,?_,?_,?_,HB5⟩
         · rw [Hy.out];simp [Zby,HE.out]
         · simp at hlp⊢;omega
         · have:=Hown5.out;simp only [List.length_append,List.flatMap_append,List.length_cons,List.length_nil,List.flatMap_cons,List.flatMap_nil,List.append_nil,List.append_assoc,Nat.zero_add] at this⊢;exact this
         · intro h;simp at h
        case measure=>simp [intOf];omega
     |cons p ps=>
      have hcl2:∀w,K w→Calls Tryz.prog 242 #[.string (B T)] w fun e w'=>∃bk c:Nat,e= .returned (.tuple #[.slice (some ⟨bk,0,none⟩) (ps.length+1) c,.bool true])∧ps.length+1≤c∧bk<w'.heap.size∧Hid (∀j u,((p::ps).flatMap pcV)[j]? =some u→w'.cell? ⟨bk,j,none⟩=some u)∧Below w.heap.size w w':=fun w h=>(hcl w h).mono fun e w' ⟨v,h1,h2,h3⟩=>by
       rw [hfT] at h1 h2;rcases h2 with⟨h4,_⟩|⟨bk,c,_,h5,h6,h7,h8⟩
       · simp at h4
       · subst h5;exact⟨bk,c,h1,h6,h7,Lib.hid h8,h3⟩
      clear hcl hfT;by_cases hE:E=[]
      · have hEi:(B E).toList.isEmpty=true:=by rw [ByteArray.toList_eq,ZQ];rw [hE];rfl
        have HE:=Lib.hid hE;clear hE;go_wp2_with (first|(go_at_call 294;refine(hnx _).mono ?_;rintro e w1 ⟨rfl,hb1⟩;have hK1:=hK _ _ hKr hb1;have hz1:=hb1.size;have HB1:=hb.trans (hb1.mono (B':=w.heap.size+1) (by omega)))|(go_at_call 242;refine(hcl2 _ (hK _ _ hK1 ((Below.refl _ _).alloc (Nat.le_refl _) _))).mono ?_;rintro e w2 ⟨bk,c,rfl,hc,hbk,hcells,hb2⟩;have hz2:=Zag hb2;have HB2:=(HB1.alloc (by omega) _).trans (hb2.mono (by simp;omega));have hown2:=Zt ((Zt hown hb1).alloc _) hb2;have hbx:=Zdq (heap_alloc_new w1 (.cells #[.string (B T),.string (B E),.int .i64 k] 262)) hb2;obtain⟨bc0,bc1,bc2⟩:=cells3 hbx)|(at_builtin;refine wpList_append_own _ rfl _ _ 72 rfl (w.heap.size+1) 167 i0 _ 3 40 Tryz.underlying72 hi iz0 iz1 iz2 rfl (by decide) _ acc.length _ rfl hown2 ⟨bk,0,none⟩ (ps.length+1) c ((p::ps).flatMap pcV) rfl ?c0 ?c1 ?c2 ?c3 ?c4 ?c5 ?_))
        case c0=>exact flat3 pcV ZeI (p::ps)
        case c1=>intro j u hu;rw [show(⟨bk,0,none⟩:Addr).add j=⟨bk,j,none⟩ by unfold Addr.add;split<;>simp_all];exact hcells.out j u hu
        case c2=>exact Zmt _
        case c3=>unfold maxLen;simp at hlp⊢;omega
        case c4=>simp at hlp⊢;omega
        case c5=>omega
        intro v3 w3 hown3 hg3 h03;have hbx3:=Zez hbx hg3 (ZfT hown2 hbx);obtain⟨cc0,cc1,cc2⟩:=cells3 hbx3;have HB3:=Z3 HB2 hown2 hg3 (by omega) (Nat.le_refl _);have hz3:=hg3.size;have Hown3:=Lib.hid hown3;clear hown3 h03 hown2 hg3 hbx;go_wp2_with fail
        go_roundw
        case rel=>
         refine⟨acc++(p::ps),k+(T.length+E.length),fu',by omega,by simp,?_,by omega,?_,?_,?_,HB3⟩
         · rw [Hy.out];rw [HE.out];simp [Zby]
         · simp at hlp⊢;omega
         · have:=Hown3.out;rw [List.length_append,List.flatMap_append];exact this
         · intro h;simp at h
        case measure=>simp [intOf];omega
      · have hEi:(B E).toList.isEmpty=false:=by rw [ByteArray.toList_eq,ZQ];cases E with|nil=>exact absurd rfl hE|cons _ _=>rfl
        have HE:=Lib.hid hE;clear hE;go_wp2_with (first|(go_at_call 294;refine(hnx _).mono ?_;rintro e w1 ⟨rfl,hb1⟩;have hK1:=hK _ _ hKr hb1;have hz1:=hb1.size;have HB1:=hb.trans (hb1.mono (B':=w.heap.size+1) (by omega)))|(go_at_call 242;refine(hcl2 _ (hK _ _ hK1 ((Below.refl _ _).alloc (Nat.le_refl _) _))).mono ?_;rintro e w2 ⟨bk,c,rfl,hc,hbk,hcells,hb2⟩;have hz2:=Zag hb2;have HB2:=(HB1.alloc (by omega) _).trans (hb2.mono (by simp;omega));have hown2:=Zt ((Zt hown hb1).alloc _) hb2;have hbx:=Zdq (heap_alloc_new w1 (.cells #[.string (B T),.string (B E),.int .i64 k] 262)) hb2;obtain⟨bc0,bc1,bc2⟩:=cells3 hbx)|(at_builtin;refine wpList_append_own _ rfl _ _ 72 rfl (w.heap.size+1) 167 i0 _ 3 40 Tryz.underlying72 hi iz0 iz1 iz2 rfl (by decide) _ acc.length _ rfl hown2 ⟨bk,0,none⟩ (ps.length+1) c ((p::ps).flatMap pcV) rfl ?c0 ?c1 ?c2 ?c3 ?c4 ?c5 ?_))
        case c0=>exact flat3 pcV ZeI (p::ps)
        case c1=>intro j u hu;rw [show(⟨bk,0,none⟩:Addr).add j=⟨bk,j,none⟩ by unfold Addr.add;split<;>simp_all];exact hcells.out j u hu
        case c2=>exact Zmt _
        case c3=>unfold maxLen;simp at hlp⊢;omega
        case c4=>simp at hlp⊢;omega
        case c5=>omega
        intro v3 w3 hown3 hg3 h03;have hbx3:=Zez hbx hg3 (ZfT hown2 hbx);obtain⟨cc0,cc1,cc2⟩:=cells3 hbx3;have HB3:=Z3 HB2 hown2 hg3 (by omega) (Nat.le_refl _);have hz3:=hg3.size;have Hown3:=Lib.hid hown3;clear hown3 h03 hown2 hg3 hbx;have hmk:=fun w (hw:∀(j:Nat) x,[E][j]? =some x→w.cell? ⟨w3.heap.size,j,none⟩=some (.string (B x)))=>ZgA w3.heap.size 1 [E] w hw (by simp) (by simp) (by simp;omega) (by simp);have hnw:=Lib.hid (Zl6 w3 E);simp only [List.flatten_singleton,List.length_singleton] at hmk;go_wp2_with (first|(go_at_call 197;refine(hmk _ hnw.out).mono ?_;rintro e w4 ⟨rfl,hb4⟩;have hz4:=Zag hb4;have hown4:=Zt (Hown3.out.alloc _) hb4;have HB4:=(HB3.alloc (by omega) _).trans (hb4.mono (by simp;omega));have hbx4:=Zdq (ZeA hbx3 _) hb4)|(at_builtin;refine wpList_append_own _ rfl _ _ 72 rfl (w.heap.size+1) 167 i0 _ 3 40 Tryz.underlying72 hi iz0 iz1 iz2 rfl (by decide) _ _ _ rfl (hown4.alloc _) ⟨w4.heap.size,0,none⟩ 1 1 (pcV (mk E)) rfl rfl ?d1 ?d2 ?d3 ?d4 ?d5 ?_))
        case d1=>exact Zcn w4 _ _ _ _
        case d2=>intro u hu;simp only [pcV,List.mem_cons,List.not_mem_nil,or_false] at hu;rcases hu with rfl|rfl|rfl<;>rfl
        case d3=>unfold maxLen;simp at hlp;omega
        case d4=>simp at hlp;omega
        case d5=>simp;omega
        intro v5 w5 hown5 hg5 h05;have hbx5:=Zez (ZeA hbx4 _) hg5 (ZfT hown4 hbx4);obtain⟨dc0,dc1,dc2⟩:=cells3 hbx5;have HB5:=Z3 (HB4.alloc (by omega) _) (hown4.alloc _) hg5 (by simp;omega) (Nat.le_refl _);have Hown5:=Lib.hid hown5;clear hown5 h05 hown4 hg5 hbx4 hbx5 hbx3 cc0 cc1 cc2 bc0 bc1 bc2;go_wp2_with fail
        go_roundw
        case rel=>
         refine⟨acc++(p::ps)++[mk E],k+(T.length+E.length),fu',by omega,by simp,?_,by omega,?_,?_,?_,HB5⟩
         · rw [Hy.out];simp [Zby,HE.out]
         · simp at hlp⊢;omega
         · have:=Hown5.out;simp only [List.length_append,List.flatMap_append,List.length_cons,List.length_nil,List.flatMap_cons,List.flatMap_nil,List.append_nil,List.append_assoc,Nat.zero_add] at this⊢;exact this
         · intro h;simp at h
        case measure=>simp [intOf];omega
  · have hk2:k=s.size:=by omega
    have he:ZP f (Zv s.data.toList)= .inl acc:=by rw [hl,List.drop_of_length_le (by omega),ZfK];simp [ZP,pre]
    have He:=Lib.hid he;have Hown:=Lib.hid hown;have H0:=Lib.hid h0;clear hl he hk2 hown h0;go_wp2_with fail
    refine bodyPost_ret (v:= .tuple #[_,.agg #[.int .i64 0,.int .i64 0]]) (by simp [results,Tryz.results239,go_sem,fc0,fc1];rfl) rfl ?_;rw [←hP];have HBf:=(((((Below.refl _ w).alloc (Nat.le_refl _) _).trans (hb.mono (by omega))).setCell (p:=⟨w.heap.size,0,none⟩) (Nat.le_refl _) (.int .i64 0)).setCell (p:=⟨w.heap.size,1,none⟩) (Nat.le_refl _) (.int .i64 0))
    refine⟨_,0,0,rfl,.inl ⟨acc,He.out,?_,Zrz Hown.out (by omega),rfl,rfl⟩,HBf⟩;exact(ZB.of_own rfl Hown.out H0.out).set2 Hown.out (p:=⟨w.heap.size,0,none⟩) (q:=⟨w.heap.size,1,none⟩) (by simp) (by simp) _ _
end Go.Proofs.YtlfinljfghhpdaaGreatDoor
