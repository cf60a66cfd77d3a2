/- Lemmas for a statement on the tops; conditions: as each says. -/
import Derived.Test.YtlfinljfghhpdaaGreatDoorM36
import Derived.Test.YtlfinljfghhpdaaGreatDoorM38
set_option linter.unusedVariables false
set_option linter.unusedSimpArgs false
set_option maxRecDepth 100000
set_option maxHeartbeats 1000000
namespace Go.Proofs.YtlfinljfghhpdaaGreatDoor
open Go Go.RowKit
def fps (c:Nat):List Int:=(Zd c).map fun x=>(x.toNat:Int)
theorem Zk7 {c:Nat} (hc:c≤6):∀x∈Zd c,x.toNat<128:=fun x hx=>by
 have h:=(Zch hc).2.2.2.2.1;rw [List.all_eq_true] at h;simpa using h x hx
theorem Zk5 {c:Nat} (hc:c≤6):Zb (fps c)=Zd c∧∀p∈fps c,Ze p=true:=Zhu _ (Zk7 hc)
theorem ZiM {c:Nat} (hc:c≤6)(s:List UInt8):Zap (Zd c++s)=Zap s:=by
 obtain⟨h1,h2⟩:=Zk5 hc;rcases Zc9 s with⟨ps,hg,e⟩|⟨n,⟨ps,r,q1,q2,q3,q4,q5⟩,e⟩
 · have q:s=Zb ps:=hg.1;have:=ZiL (l:=Zd c++s) (ps:=fps c++ps) ⟨by show Zd c++s=_;rw [ZcK,h1,←q],fun p hp=>(List.mem_append.1 hp).elim (h2 p) (hg.2 p)⟩;unfold Zap;rw [this,e]
 · have q:s=Zb ps++r:=q1;have:=Znx (l:=Zd c++s) (n:=(Zb (fps c++ps)).length) ⟨fps c++ps,r,by show Zd c++s=_;rw [ZcK,h1,List.append_assoc,←q],fun p hp=>(List.mem_append.1 hp).elim (h2 p) (q2 p),rfl,q4,q5⟩;unfold Zap;rw [this,e]
theorem ZrK {t:List UInt8} {ps:List Int} (h:Good (B t) ps):Zap t=true:=by
 have:=ZiL (l:=t) h;unfold Zap;rw [this]
theorem ZrA (c:Nat)(s:List UInt8):∃l,Zd c++s=91::l:=⟨_,rfl⟩
theorem Zk8 (c:Nat)(s:List UInt8):Zdt (Zd c++s)=(0,0)∧Lib.hasPrefix (Zd c++s) [239,187,191]=false:=by
 obtain⟨l,e⟩:=ZrA c s;rw [e];exact⟨rfl,rfl⟩
theorem Zte {c:Nat} (hc:c≤6)(s t:List UInt8)(ps:List Int)(hg:Good (B t) ps)(ht:ZaD c s ps)(hs:Zap s=true→s=t)(fb:Nat)(det:Bool):
 ∃cs qs,cs≤9∧ZdC (Zd c++s) (nmC c) fb det=cs∧Zbb cs (Zd c++s)= .inl qs∧Zb qs=Zd c++t:=by
 by_cases hu:Zap s=true
 · have h:=hs hu;subst h;have hf:=ZiM hc s;rw [hu] at hf;refine⟨7,?_⟩;rcases Zc9 (Zd c++s) with⟨qs,hq,e⟩|⟨n,_,e⟩
   · refine⟨qs,by omega,by unfold ZdC;rw [if_pos hf],?_,ZiN hq⟩;rw [←e];rfl
   · unfold Zap at hf;rw [e] at hf;cases hf
 · have hf:=ZiM hc s;refine⟨c,fps c++ps,by omega,?_,(ZaD.app (Zno hc _ (Zk7 hc)) ht).dec,?_⟩
   · unfold ZdC;rw [hf,if_neg hu,(Zch hc).2.2.2.2.2.1]
   · rw [ZcK,(Zk5 hc).1];have:t=Zb ps:=hg.1;rw [this]
theorem ZrC {c:Nat} (hc:c≤6):(Zd c).length≤31:=by
 have h:=(Zch hc).2.2.2.1;unfold Zd tm1;simp only [List.length_append,List.length_cons,List.length_nil];omega
structure Wd (w:World):Prop where
 grd:Grd w
 st:Zff w
theorem Wd.below {w w':World} (h:Wd w)(hb:Below w.heap.size w w'):Wd w' where
 grd:=h.grd.below hb
 st:=fun j u hu=>by
  have hc:=h.st j u hu;have hlt:0<w.heap.size:=by
   simp only [World.cell?] at hc;cases hq:w.heap[0]? with
   |none=>rw [hq] at hc;cases hc
   |some o=>exact(Array.getElem?_eq_some_iff.1 hq).1
  exact(hb.cell (p:=⟨0,0+j,none⟩) hlt).trans hc
theorem ZoB {c:Nat} (hc:c≤6)(s t:List UInt8)(ps:List Int)(hg:Good (B t) ps)(hte:ZaD c s ps)(hs:Zap s=true→s=t)(ht:t.length≤60)(hsl:s.length≤120)(h1:ZdZ t=true)(fb:Nat)(hfb:fb≤6)(det:Bool)(w:World)(hw:Wd w):
 Calls Tryz.prog 9 #[.string (B (Zd c++s)),.agg #[.int .i64 0,.int .i64 fb,.bool det,.int .i64 0]] w fun e w'=>e= .returned (.tuple #[.string (B (Zd c++t)),.agg #[.int .i64 0,.int .i64 0]])∧Below w.heap.size w w':=by
 obtain⟨pl,hp,hwh⟩:=ZtW hc (ZsK h1);obtain⟨cs,qs,hcs,hr,hd,hq⟩:=Zte hc s t ps hg hte hs fb det;have hfl:=ZrC hc;have hnl:=(Zch hc).2.2.2.2.2.2;have hls:(Zd c++s).length≤2000:=by rw [List.length_append];omega
 have hlt:(Zd c++t).length≤2000:=by rw [List.length_append];omega
 have hut:Zap (Zd c++t)=true:=by rw [ZiM hc];exact ZrK hg
 have hpl:=Zs3 _ pl hp;have hra:ZeJ 0 fb 0=true:=by unfold ZeJ;rw [decide_eq_true_eq];omega
 have hsz:=Zy (Zd c++s);have hsz2:=Zy (Zd c++t);refine ZoA (B (Zd c++s)) (by omega) 0 fb det hra (B (Zd c++t)) (by omega) (fun T wx=>Wd wx∧∃A n c',T=TT 7 (.slice A n c') cs∧ZB pcV wx (.slice A n c') pl) ?_ w ?_ ?_
 · rintro T w1 w2 ⟨h0,A,n,c',h2,h3⟩ hb;exact⟨h0.below hb,A,n,c',h2,h3.below hb⟩
 · intro wx hb;refine(Zom (B (Zd c++s)) fb 0 det cs pl wx (fun wy hy=>Zpy hc s hls wy ((hw.below hb).below hy).st) fun wy hy=>Zp0 (Zd c++s) (Zd c++t) (nmC c) hls hlt 0 0 fb cs det qs pl (Zk8 c s).1 (Zq6 hc s) (by omega) hr hcs hd hq hp wy ((hw.below hb).below hy).grd).mono ?_;rintro e w' ⟨A,n,c',rfl,hr2,hb2⟩;exact⟨_,rfl,⟨rfl,Zge _ _ _ rfl⟩,⟨(hw.below hb).below hb2,A,n,c',rfl,ZmO hr2⟩,hb2⟩
 · rintro T wx _ ⟨h0,A,n,c',rfl,h2⟩;exact Zp7 _ _ _ 0 0 wx fun wy hy=>ZoW A n c' cs (Zd c++t) hlt pl hp hwh hut (Zk8 c t).2 (by omega) wy (h0.below hy).grd (h2.below hy)
end Go.Proofs.YtlfinljfghhpdaaGreatDoor
