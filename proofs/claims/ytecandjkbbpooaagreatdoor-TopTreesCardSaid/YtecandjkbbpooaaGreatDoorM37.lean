/- Lemmas for a statement on the tops; conditions: as each says. -/
import Derived.Deep.Slices
import Derived.Deep.Fields
import Derived.ChangeSame
import Derived.Test.YtecandjkbbpooaaGreatDoorM36
set_option linter.unusedVariables false
set_option linter.unusedSimpArgs false
set_option maxRecDepth 100000
set_option maxHeartbeats 4000000
namespace Go.Proofs.YtecandjkbbpooaaGreatDoor
open Go Go.RowKit Go.ChangeShapes Go.WideShapes Go.Deep
theorem Zhi {α:Type} {R:Nat→α→Prop}:∀n:Nat,(∀i,i<n→∃p,R i p)→∃l:List α,l.length=n∧∀i p,l[i]? =some p→R i p
 |0,_=>⟨[],rfl,by simp⟩
 |n+1,h=>by
  obtain⟨l,hl,hR⟩:=Zhi n fun i hi=>h i (by omega);obtain⟨p,hp⟩:=h n (by omega);refine⟨l++[p],by simp [hl],fun i q hq=> ?_⟩;rcases Nat.lt_or_ge i n with h1|h1
  · rw [List.getElem?_append_left (by omega)] at hq;exact hR i q hq
  · have hlt:=(List.getElem?_eq_some_iff.1 hq).1;simp only [List.length_append,List.length_singleton] at hlt;obtain rfl:i=n:=by omega
    rw [List.getElem?_append_right (by omega),hl,Nat.sub_self] at hq;simp at hq;subst hq;exact hp
section
variable {H:Type} {enc:TypeId×Value→H} {w:World} {base:Nat} {spare:Nat→Bool} {held:Bool}
end
theorem Zmo {α:Type} (m:Nat)(f:α→List Value)(hf:∀x,(f x).length=m)(hm:0<m){w:World} {a:Addr} {l:List α} (hR:∀i p,l[i]? =some p→∀j,j<m→w.cell? (a.add (i*m+j))=(f p)[j]?):RdN m f w w.heap.size (some a) l:=by
 refine⟨Zga m f hf l,fun hn=>⟨a,rfl,?_,fun j u hu=> ?_⟩⟩
 · have hx:=List.getElem?_eq_getElem hn;have h0:=hR 0 _ hx 0 hm;have hsome:∃u,(f l[0])[0]? =some u:=⟨_,List.getElem?_eq_getElem (by rw [hf];exact hm)⟩
   obtain⟨u,hu⟩:=hsome;have:=World.block_lt_of_cell? _ _ (h0.trans hu)
   rwa [ZaX] at this
 · have hj:j<l.length*m:=by rw [←Zga m f hf l];exact(List.getElem?_eq_some_iff.1 hu).1
   have hjm:j / m<l.length:=Nat.div_lt_of_lt_mul (by rw [Nat.mul_comm];exact hj);have hmod:j % m<m:=Nat.mod_lt _ hm;have hx:=List.getElem?_eq_getElem hjm;have h1:=Zet m f hf l (j / m) (j % m) _ hx hmod;have e:j / m*m+j % m=j:=by rw [Nat.mul_comm];exact Nat.div_add_mod j m
   rw [e] at h1;rw [h1] at hu;have h2:=hR (j / m) _ hx (j % m) hmod;rw [e] at h2;rw [h2,hu]
section
variable {H:Type} {enc:TypeId×Value→H} {w:World} {base:Nat} {spare:Nat→Bool} {held:Bool}
theorem Zsb {fuel:Nat} {cs:List Value} {x:DataW H×List MemPlace} (h:DataW.trod enc Tryz.prog w base spare held fuel 28 cs=some x):∃(kd fb bud:Int) (det:Bool),cs=[.int .i64 kd,.int .i64 fb,.bool det,.int .i64 bud]:=by
 obtain⟨xs,n,_,_,hl,hxl,hg⟩:=DataW.trod_struct Tryz.underlying28 h;have hC:Tryz.prog.cellsOf 28=4:=by kernel_rfl
 rw [hC] at hl;have o0:Tryz.prog.cellsOf 25=1:=by kernel_rfl
 have o1:Tryz.prog.cellsOf 26=1:=by kernel_rfl
 have o2:Tryz.prog.cellsOf 4=1:=by kernel_rfl
 have o3:Tryz.prog.cellsOf 3=1:=by kernel_rfl
 have hx:∀j,j<4→∃y,xs[j]? =some y:=fun j hj=>⟨_,List.getElem?_eq_getElem (by rw [hxl];exact hj)⟩
 obtain⟨y0,e0⟩:=hx 0 (by omega);obtain⟨y1,e1⟩:=hx 1 (by omega);obtain⟨y2,e2⟩:=hx 2 (by omega);obtain⟨y3,e3⟩:=hx 3 (by omega);have g0:=hg 0 _ rfl;have g1:=hg 1 _ rfl;have g2:=hg 2 _ rfl;have g3:=hg 3 _ rfl;rw [e0] at g0;rw [e1] at g1;rw [e2] at g2;rw [e3] at g3
 match cs,hl with
 |[c0,c1,c2,c3],_=>
  change DataW.trod enc Tryz.prog w base spare held n 25 ((([c0,c1,c2,c3]:List Value).drop 0).take (Tryz.prog.cellsOf 25))=some y0 at g0
  rw [o0] at g0;change DataW.trod enc Tryz.prog w base spare held n 25 [c0]=some y0 at g0
  change DataW.trod enc Tryz.prog w base spare held n 26 ((([c0,c1,c2,c3]:List Value).drop 1).take (Tryz.prog.cellsOf 26))=some y1 at g1
  rw [o1] at g1;change DataW.trod enc Tryz.prog w base spare held n 26 [c1]=some y1 at g1
  change DataW.trod enc Tryz.prog w base spare held n 4 ((([c0,c1,c2,c3]:List Value).drop 2).take (Tryz.prog.cellsOf 4))=some y2 at g2
  rw [o2] at g2;change DataW.trod enc Tryz.prog w base spare held n 4 [c2]=some y2 at g2
  change DataW.trod enc Tryz.prog w base spare held n 3 ((([c0,c1,c2,c3]:List Value).drop 3).take (Tryz.prog.cellsOf 3))=some y3 at g3
  rw [o3] at g3;change DataW.trod enc Tryz.prog w base spare held n 3 [c3]=some y3 at g3
  obtain⟨z0,d0,_,_⟩:=DataW.trod_int Tryz.underlying25 g0;obtain⟨z1,d1,_,_⟩:=DataW.trod_int Tryz.underlying26 g1;obtain⟨b2,d2,_⟩:=DataW.trod_bool Tryz.underlying4 g2;obtain⟨z3,d3,_,_⟩:=DataW.trod_int Tryz.underlying3 g3;injection d0 with d0
  injection d1 with d1
  injection d2 with d2
  injection d3 with d3
  subst d0 d1 d2 d3;exact⟨z0,z1,z3,b2,rfl⟩
end
end Go.Proofs.YtecandjkbbpooaaGreatDoor
