/- Lemmas for a statement on the tops; conditions: as each says. -/
import Derived.Deep.CutBlock
import Derived.Test.YtecandjkbbpooaaGreatDoorM34
set_option linter.unusedVariables false
set_option linter.unusedSimpArgs false
set_option maxRecDepth 100000
set_option maxHeartbeats 4000000
namespace Go.Proofs.YtecandjkbbpooaaGreatDoor
open Go Go.RowKit
def ptL (p:Pt):List Value:=[.string (B (ltN p.l)),.bool p.raw,.string (B p.text),.int .i64 (p.set:Nat)]
theorem ptA_L (p:Pt):ptA p=(ptL p).toArray:=rfl
theorem Zsw:(Tryz.prog.info? 39).map (fun i=>(i.zero,i.size,i.bytes))=some (some (.agg #[.string ⟨#[]⟩,.bool false,.string ⟨#[]⟩,.int .i64 0]),4,48):=by kernel_rfl
section
variable {ops:Array Oper} {rest:List Oper} {o:Oper} {a:Act} {Q:Exit→Act→World→Prop}
theorem app_pt (hgd:o.guard=none)(s x:Operand)(ho:o.op= .call {callee:= .builtin .append,args:=#[s,x],argTypes:=#[35,35]}) (base:Nat) (v:Value) (L:List Pt) (hs:a.eval s=v) (W:World) (p:Pt) (cs:Array Value) (hcs:cs=ptA p)
 (hown:W.ownsRow base 39 4 v L.length (L.flatMap ptL)) (hbase:base≤W.heap.size) (hlen:L.length≤16777216) (hx:a.eval x= .slice (some ⟨W.heap.size,0,none⟩) 1 1)
 (h:∀v' w',Hid (w'.ownsRow base 39 4 v' (L++[p]).length ((L++[p]).flatMap ptL))→Below base W w'→W.grownBy w' v.ownBlock→wpList Tryz.prog ops Q rest (a.put o.dst v') w'):
 wpList Tryz.prog ops Q (o::rest) a (W.alloc (.cells cs 39)):=by
 obtain⟨i0,hi,iz0,iz1,iz2⟩:=info_parts Zsw;rw [hcs,ptA_L];refine wpList_append_own _ hgd s x 35 ho base 39 i0 _ 4 48 Tryz.underlying35 hi iz0 iz1 iz2 rfl (by decide) v L.length _ hs (hown.alloc _) ⟨W.heap.size,0,none⟩ 1 1 (ptL p) hx rfl (Zfo W (ptL p) _) ?_ (by unfold maxLen;omega) (by omega) (by simp;omega) ?_
 · intro u hu;simp only [ptL,List.mem_cons,List.not_mem_nil,or_false] at hu;rcases hu with rfl|rfl|rfl|rfl<;>rfl
 · intro v6 w6 hown6 hg6 _;refine h v6 w6 (Lib.hid ?_) (Zaa ((Below.refl _ W).alloc hbase _) (hown.alloc _) hg6 (by simp;omega) (Nat.le_refl _)) ⟨hg6.os,hg6.tape,hg6.output,by have:=hg6.size;simp at this;omega,fun k hk hc=>(hg6.block k (by simp;omega) hc).trans (Below.heap_alloc _ _ _ hk)⟩;rw [List.flatMap_append,List.length_append];simpa [ptL] using hown6
end
structure FdSt (w wx:World)(F K:Nat)(BX:Array Value)(s:InS):Prop where
 sc:Bx wx F BX 166
 res:Bx wx (w.heap.size+1) #[.int .i64 0,.int .i64 0] 62
 inn:InAt wx K s
 blw:Below w.heap.size w wx
 hF:w.heap.size+2≤F
 hK:w.heap.size+2≤K
 ne:F≠K
section
variable {w wx wy:World} {F K:Nat} {BX:Array Value} {s s':InS}
theorem FdSt.below (h:FdSt w wx F K BX s)(hb:Below wx.heap.size wx wy):FdSt w wy F K BX s:=
 ⟨h.sc.below hb,h.res.below hb,h.inn.below hb,h.blw.trans (hb.mono h.blw.size),h.hF,h.hK,h.ne⟩
theorem FdSt.butK (h:FdSt w wx F K BX s)(h2:InAt wy K s')(hb:But K wx.heap.size wx wy):FdSt w wy F K BX s':=
 ⟨h.sc.but hb h.ne,h.res.but hb (by have:=h.hK;omega),h2,h.blw.trans ((hb.mono h.blw.size).below (by have:=h.hK;omega)),h.hF,h.hK,h.ne⟩
theorem FdSt.drewN (h:FdSt w wx F K BX s)(n:Nat):FdSt w (wx.drewN n) F K BX s:=h.below (below_drewN (Below.refl _ _) n)
theorem FdSt.drew (h:FdSt w wx F K BX s):FdSt w wx.drew F K BX s:=h.drewN 1
theorem FdSt.alloc (h:FdSt w wx F K BX s)(o:Obj):FdSt w (wx.alloc o) F K BX s:=h.below ((Below.refl _ _).alloc (Nat.le_refl _) _)
theorem FdSt.setO (h:FdSt w wx F K BX s){g:Nat} (hg:w.heap.size+2≤g)(hF:g≠F)(hK:g≠K)(j:Nat)(v:Value):FdSt w (wx.setCell ⟨g,j,none⟩ v) F K BX s:=
 ⟨h.sc.set (Ne.symm hF) j v,h.res.set (by omega) j v,h.inn.set (Ne.symm hK) j v,h.blw.setCell (by show w.heap.size≤g;omega) v,h.hF,h.hK,h.ne⟩
theorem FdSt.setF (h:FdSt w wx F K BX s)(j:Nat)(v:Value):FdSt w (wx.setCell ⟨F,j,none⟩ v) F K (BX.setIfInBounds j v) s:=
 ⟨h.sc.put j v,h.res.set (by have:=h.hF;omega) j v,h.inn.set (Ne.symm h.ne) j v,h.blw.setCell (by show w.heap.size≤F;have:=h.hF;omega) v,h.hF,h.hK,h.ne⟩
end
theorem ZkO (s:InS)(e a:Nat):(s.fail e a).t=s.t:=by unfold InS.fail;split<;>rfl
theorem ZmL (s:InS):s.short.t=s.t:=ZkO _ _ _
theorem ZiE (s:InS)(k:Nat):(s.take k).2.t=s.t:=by
 unfold InS.take;split
 · rfl
 · split
   · exact ZmL s
   · rfl
theorem Zm2 (s:InS)(k:Nat):(s.until k).2.t=s.t:=by
 unfold InS.until;split
 · rfl
 · split
   · exact ZmL s
   · rfl
theorem Zm9 (wd:List UInt8→Except (Nat×Nat) (List UInt8×Nat))(l:Lt)(b:List UInt8×InS)(k:Nat):(ZaO wd l b k).2.t=b.2.t:=by
 unfold ZaO;split
 · rfl
 · exact ZkO _ _ _
theorem Zsx (en:Nat)(wd:List UInt8→Except (Nat×Nat) (List UInt8×Nat))(s:InS)(l:Lt):(ZK en wd s l).2.t=s.t:=by
 cases l<;>first|exact ZiE _ _|exact Zm2 _ _|exact(Zm9 _ _ _ _).trans (Zm2 _ _)|exact(Zm9 _ _ _ _).trans (ZiE _ _)
def Zc3 (acc:List Pt):Except (Nat×Nat) (List Pt×InS)→Except (Nat×Nat) (List Pt×InS)
 | .error x=> .error x
 | .ok q=> .ok (acc++q.1,q.2)
theorem Zso (r:Except (Nat×Nat) (List Pt×InS)):Zc3 [] r=r:=by cases r<;>rfl
theorem Zsp (a b:List Pt)(r:Except (Nat×Nat) (List Pt×InS)):Zc3 a (Zc3 b r)=Zc3 (a++b) r:=by cases r<;>simp [Zc3]
theorem Zsz (en:Nat)(wd:List UInt8→Except (Nat×Nat) (List UInt8×Nat))(ls:List Lt)(k:Nat)(hk:k<ls.length)(s:InS):
 Zbg en wd (ls.drop k) s=if(ZK en wd s ls[k]).2.e≠0 then .error ((ZK en wd s ls[k]).2.e,(ZK en wd s ls[k]).2.a) else Zc3 [(ZK en wd s ls[k]).1] (Zbg en wd (ls.drop (k+1)) (ZK en wd s ls[k]).2):=by
 rw [List.drop_eq_getElem_cons hk,Zbg];split
 · rfl
 · cases Zbg en wd (ls.drop (k+1)) (ZK en wd s ls[k]).2<;>rfl
def Zd9 (r:Except (Nat×Nat) (List Pt))(w0:World)(e:Ending)(w':World):Prop:=
 Below w0.heap.size w0 w'∧match r with
 | .ok ps=>∃v,e= .returned (.tuple #[v,.agg #[.int .i64 0,.int .i64 0]])∧Zi ptL w0.heap.size w' v ps
 | .error x=>e= .returned (.tuple #[.slice none 0 0,.agg #[.int .i64 (x.1:Nat),.int .i64 (x.2:Nat)]])
noncomputable def ZeS (en:Nat)(fb:Nat)(det:Bool)(ls:List Lt)(s:InS):Except (Nat×Nat) (List Pt):=match Zbg en (wdF fb det en) ls s with| .error x=> .error x| .ok q=> .ok q.1
theorem ZqF (v:Nat)(id body:List UInt8)(fb:Nat)(det:Bool)(h0:Zd v id≠[]):
 Zcf (wdF fb det) v id body=if((⟨body,0,0,0,0⟩:InS).big 1).2.e≠0 then .error (((⟨body,0,0,0,0⟩:InS).big 1).2.e,((⟨body,0,0,0,0⟩:InS).big 1).2.a) else
  if Zdj v ((⟨body,0,0,0,0⟩:InS).big 1).1=false then .error (1,0) else ZeS ((⟨body,0,0,0,0⟩:InS).big 1).1 fb det (Zd v id) ((⟨body,0,0,0,0⟩:InS).big 1).2:=by
 unfold Zcf ZeS;rw [if_neg h0];rfl
theorem Zpz (body:List UInt8):((⟨body,0,0,0,0⟩:InS).big 1).1<256∧((⟨body,0,0,0,0⟩:InS).big 1).2.t=body:=by
 refine⟨?_,ZiE _ _⟩;have h:=Zd4 (⟨body,0,0,0,0⟩:InS) 1;show InS.bigN ((⟨body,0,0,0,0⟩:InS).take (min 1 8)).1<256
 rw [show min 1 8=1 from rfl]
 match((⟨body,0,0,0,0⟩:InS).take 1).1,h with
 |[],_=>decide
 |[x],_=>
  have:=x.toNat_lt;simp only [InS.bigN,List.foldl];omega
theorem ZoF (t:List UInt8)(h1:t.length≤1000000000)(w:World):
 Calls Tryz.prog 50 #[.string (B t)] w fun e w'=>∃K,e= .returned (.pointer (some ⟨K,0,none⟩))∧InAt w' K ⟨t,0,0,0,0⟩∧Below w.heap.size w w'∧w.heap.size≤K∧K<w'.heap.size:=
 (Zjv t h1 w).mono fun _ _ ⟨a,b,c,d⟩=>⟨_,a,b,c,Nat.le_refl _,by omega⟩
theorem Zix {w:World} {g:Nat} {a b c d e f:Value} {T:TypeId} (h:Bx w g #[a,b,c,d,e,f] T):
 (w.cell? ⟨g,0,none⟩=some a∧w.cell? ⟨g,1,none⟩=some b∧w.cell? ⟨g,2,none⟩=some c∧w.cell? ⟨g,3,none⟩=some d∧w.cell? ⟨g,4,none⟩=some e∧w.cell? ⟨g,5,none⟩=some f)∧(∀j,w.frozen? ⟨g,j,none⟩=false)∧g<w.heap.size:=
 ⟨h.six,h.free,h.lt⟩
structure OSt (w wx:World)(OA:Array Value):Prop where
 op:Bx wx w.heap.size OA 28
 res:Bx wx (w.heap.size+1) #[.int .i64 0,.int .i64 0] 62
 blw:Below w.heap.size w wx
 sz:w.heap.size+2≤wx.heap.size
section
variable {w wx wy:World} {OA:Array Value}
theorem OSt.below (h:OSt w wx OA)(hb:Below wx.heap.size wx wy):OSt w wy OA:=⟨h.op.below hb,h.res.below hb,h.blw.trans (hb.mono h.blw.size),Nat.le_trans h.sz hb.size⟩
theorem OSt.alloc (h:OSt w wx OA)(o:Obj):OSt w (wx.alloc o) OA:=h.below ((Below.refl _ _).alloc (Nat.le_refl _) _)
theorem OSt.drew (h:OSt w wx OA):OSt w wx.drew OA:=h.below (below_drewN (Below.refl _ _) 1)
theorem OSt.set (h:OSt w wx OA){g:Nat} (hg:w.heap.size+2≤g)(j:Nat)(v:Value):OSt w (wx.setCell ⟨g,j,none⟩ v) OA:=
 ⟨h.op.set (by omega) j v,h.res.set (by omega) j v,h.blw.setCell (by show w.heap.size≤g;omega) v,by simpa [World.setCell] using h.sz⟩
theorem OSt.mk0 (w:World)(OA:Array Value):OSt w ((w.alloc (.cells OA 28)).alloc (.cells #[.int .i64 0,.int .i64 0] 62)) OA:=by
 have b2:=Bx.new (w.alloc (.cells OA 28)) #[.int .i64 0,.int .i64 0] 62;rw [World.size_alloc] at b2;exact⟨(Bx.new w OA 28).alloc _,b2,((Below.refl _ w).alloc (Nat.le_refl _) _).alloc (by simp) _,by simp⟩
theorem OSt.four {a b c d:Value} (h:OSt w wx #[a,b,c,d]):wx.cell? ⟨w.heap.size,0,none⟩=some a∧wx.cell? ⟨w.heap.size,1,none⟩=some b∧wx.cell? ⟨w.heap.size,2,none⟩=some c∧wx.cell? ⟨w.heap.size,3,none⟩=some d:=⟨h.op.cell 0,h.op.cell 1,h.op.cell 2,h.op.cell 3⟩
theorem OSt.fst {F K:Nat} {BX:Array Value} {s:InS} (h:OSt w wx OA)(hF:Bx wx F BX 166)(hi:InAt wx K s)(h1:w.heap.size+2≤F)(h2:w.heap.size+2≤K)(hne:F≠K):FdSt w wx F K BX s:=⟨hF,h.res,hi,h.blw,h1,h2,hne⟩
end
def PlRel (w:World)(F K:Nat)(BX:Array Value)(P0:Except (Nat×Nat) (List Pt×InS))(en:Nat)(wd:List UInt8→Except (Nat×Nat) (List UInt8×Nat))(ls:List Lt)(body:List UInt8)(base:Nat)(vl i:Value)(wr:World):Prop:=
 ∃(k:Nat) (acc:List Pt) (s:InS),k≤ls.length∧i= .int .i64 k∧acc.length=k∧s.t=body∧s.e=0∧Hid (FdSt w wr F K BX s)∧Hid (wr.ownsRow base 39 4 vl acc.length (acc.flatMap ptL))∧base≤wr.heap.size∧(acc=[]→vl= .slice none 0 0)∧Hid (P0=Zc3 acc (Zbg en wd (ls.drop k) s))
structure PcC (w wx:World)(F K G base:Nat)(BX:Array Value)(s:InS)(acc:List Pt)(vl:Value)(p:Pt):Prop where
 st:FdSt w wx F K BX s
 own:wx.ownsRow base 39 4 vl acc.length (acc.flatMap ptL)
 pt:Bx wx G (ptA p) 39
 hb:base≤wx.heap.size
theorem PcC.below {w wx wy:World} {F K G base:Nat} {BX:Array Value} {s:InS} {acc:List Pt} {vl:Value} {p:Pt} (h:PcC w wx F K G base BX s acc vl p)(hb:Below wx.heap.size wx wy):PcC w wy F K G base BX s acc vl p:=
 ⟨h.st.below hb,ZE h.own hb,h.pt.below hb,Nat.le_trans h.hb hb.size⟩
theorem PcC.alloc {w wx:World} {F K G base:Nat} {BX:Array Value} {s:InS} {acc:List Pt} {vl:Value} {p:Pt} (h:PcC w wx F K G base BX s acc vl p)(o:Obj):PcC w (wx.alloc o) F K G base BX s acc vl p:=h.below ((Below.refl _ _).alloc (Nat.le_refl _) _)
theorem FdSt.low {w wx wy:World} {F K B:Nat} {BX:Array Value} {s:InS} (h:FdSt w wx F K BX s)(hb:Below B wx wy)(hF:F<B)(hK:K<B)(h2:w.heap.size+2≤B):FdSt w wy F K BX s:=
 ⟨(hb.block F hF).trans h.sc,(hb.block _ (by omega)).trans h.res,h.inn.same (hb.block K hK),h.blw.trans (hb.mono (by omega)),h.hF,h.hK,h.ne⟩
theorem FdSt.six {w wx:World} {F K:Nat} {a b c d e f:Value} {s:InS} (h:FdSt w wx F K #[a,b,c,d,e,f] s):wx.cell? ⟨F,0,none⟩=some a∧wx.cell? ⟨F,1,none⟩=some b∧wx.cell? ⟨F,2,none⟩=some c∧wx.cell? ⟨F,3,none⟩=some d∧wx.cell? ⟨F,4,none⟩=some e∧wx.cell? ⟨F,5,none⟩=some f:=h.sc.six
theorem Bx.four {w:World} {g:Nat} {a b c d:Value} {T:TypeId} (h:Bx w g #[a,b,c,d] T):(w.cell? ⟨g,0,none⟩=some a∧w.cell? ⟨g,1,none⟩=some b∧w.cell? ⟨g,2,none⟩=some c∧w.cell? ⟨g,3,none⟩=some d)∧(∀j,w.frozen? ⟨g,j,none⟩=false)∧g<w.heap.size:=⟨⟨h.cell 0,h.cell 1,h.cell 2,h.cell 3⟩,h.free,h.lt⟩
theorem Zdo {w:World} {base:Nat} {e:TypeId} {size:Nat} {v:Value} {n:Nat} {xs:List Value} (h:w.ownsRow base e size v n xs){g:Nat} (hg:∀k,v.ownBlock=some k→k<g)(j:Nat)(u:Value):(w.setCell ⟨g,j,none⟩ u).ownsRow base e size v n xs:=
 h.kept (row:=some g) ⟨rfl,rfl,rfl,by simp [World.setCell],fun k hk hc=>ZeI (by simpa using hc) u⟩ (.inr fun e=>by have:=hg g e;omega)
theorem ZnA (v:Nat)(id body:List UInt8)(hid:id.length≤100000)(hbd:body.length≤100000)(h0:Zd v id≠[])(kd bud:Int)(fb:Nat)(det:Bool)
 (hpc:∀l,l∈Zd v id→∀(K:Nat) (s:InS),s.t.length≤100000→∀w:World,Grd w→InAt w K s→Calls Tryz.prog 108 #[.agg (Zad K ((⟨body,0,0,0,0⟩:InS).big 1).1 kd bud fb det),.int .u8 (ltB l).toNat] w (Zbl K (ZK ((⟨body,0,0,0,0⟩:InS).big 1).1 (wdF fb det ((⟨body,0,0,0,0⟩:InS).big 1).1) s l) w)) (w:World) (hG:Grd w):
 Calls Tryz.prog 44 #[.int .i64 v,.string (B id),.string (B body),.agg #[.int .i64 kd,.int .i64 fb,.bool det,.int .i64 bud]] w (Zd9 (Zcf (wdF fb det) v id body) w):=by
 have hla:=fun w=>ZeT v id hid w;have hne:(B (Zm (Zd v id))).toList.isEmpty=false:=Zeg (by unfold Zm;intro h;exact h0 (List.map_eq_nil_iff.1 h));rw [ZqF v id body fb det h0];obtain⟨hen,hbt⟩:=Zpz body;have hlen:(Zm (Zd v id)).length=(Zd v id).length:=by unfold Zm;simp
 generalize hls:Zd v id=ls at*;obtain⟨en,s0,hes⟩:∃en s0,(⟨body,0,0,0,0⟩:InS).big 1=(en,s0):=⟨_,_,rfl⟩
 have hrd:=fun w=>ZoF body (by omega) w;have hbg:=fun K w h=>ZcN K (⟨body,0,0,0,0⟩:InS) 1 (by decide) w h;rw [hes] at hen hbt hbg hpc⊢;simp only at hen hbt hpc⊢;have HPC:=Lib.hid hpc;clear hpc;unfold Zf at hbg;have hL8:ls.length≤8:=by
  rw [←hls];unfold Zd;(repeat' split)<;>simp
 generalize hP:Zd9 _ w=P at*;have G0:=Lib.hid hG;clear hes h0 hls;go_enter Tryz.func44,Tryz.ntmps44
 go_upto_region 4 with(go_at_call 105;refine(hla _).mono ?_;rintro e w1 ⟨rfl,rfl⟩)
 go_cut [11] (fun s11 wx=>∃F K,s11= .pointer (some ⟨F,0,none⟩)∧FdSt w wx F K #[.pointer (some ⟨K,0,none⟩),.int .u8 0,.int .i64 kd,.int .i64 fb,.bool det,.int .i64 bud] ⟨body,0,0,0,0⟩)
 case first=>
  have O0:=Lib.hid (OSt.mk0 w #[.int .i64 kd,.int .i64 fb,.bool det,.int .i64 bud]);generalize ((w.alloc (.cells #[.int .i64 kd,.int .i64 fb,.bool det,.int .i64 bud] 28)).alloc (.cells #[.int .i64 0,.int .i64 0] 62))=W2 at*;have hz2:=O0.out.sz;go_region_held3 (fun w'=>w'.cell? ⟨w.heap.size,0,none⟩=some (.int .i64 kd)∧w'.cell? ⟨w.heap.size,1,none⟩=some (.int .i64 (fb:Int))∧w'.cell? ⟨w.heap.size,2,none⟩=some (.bool det)∧w'.cell? ⟨w.heap.size,3,none⟩=some (.int .i64 bud))
   (first|with_reducible exact O0.out.four|with_reducible exact O0.out.drew.four|with_reducible exact(O0.out.alloc _).four|with_reducible exact(O0.out.alloc _).drew.four|with_reducible exact(O0.out.drew.alloc _).four|with_reducible exact O1.out.four|with_reducible exact(O1.out.alloc _).four|with_reducible exact O1.out.drew.four|with_reducible exact((((((O1.out.set hz2 _ _).set hz2 _ _).set hz2 _ _).set hz2 _ _).set hz2 _ _).set hz2 _ _).four)
   (first|(go_at_call 50;refine(hrd _).mono ?_;rintro e w1 ⟨K,rfl,h1,hb1,hk1,hk2⟩;have O1:=Lib.hid (by first|with_reducible exact O0.out.below hb1|with_reducible exact O0.out.drew.below hb1|with_reducible exact(O0.out.alloc _).below hb1|with_reducible exact(O0.out.alloc _).drew.below hb1|with_reducible exact(O0.out.drew.alloc _).below hb1);first|(have ZX:Bx w1 W2.heap.size #[.pointer none,.int .u8 0,.int .i64 0,.int .i64 0,.bool false,.int .i64 0] 166:=Bx.below (w:=(W2.alloc (.cells #[.pointer none,.int .u8 0,.int .i64 0,.int .i64 0,.bool false,.int .i64 0] 166))) (Bx.new W2 _ _) hb1;have ZH:=Lib.hid ZX;obtain⟨⟨x0,x1,x2,x3,x4,x5⟩,xf,xl⟩:=Zix ZX;clear ZX)|(have ZX:Bx w1 W2.heap.size #[.pointer none,.int .u8 0,.int .i64 0,.int .i64 0,.bool false,.int .i64 0] 166:=Bx.below (w:=(W2.alloc (.cells #[.pointer none,.int .u8 0,.int .i64 0,.int .i64 0,.bool false,.int .i64 0] 166)).drew) (Bx.new W2 _ _) hb1;have ZH:=Lib.hid ZX;obtain⟨⟨x0,x1,x2,x3,x4,x5⟩,xf,xl⟩:=Zix ZX;clear ZX)|skip))
  · go_wp2_with fail
    go_meet
    have hz1:=O1.out.sz;have hk3:w.heap.size+2≤K:=Nat.le_trans hz2 hk1;exact⟨_,K,rfl,(O1.out.alloc _).fst (Bx.new w1 _ _) (h1.alloc _) (by omega) hk3 (by omega)⟩
  · go_wp2_with fail
    go_meet
    have hk3:W2.heap.size+1≤K:=by
     have hk4:(W2.alloc (.cells #[.pointer none,.int .u8 0,.int .i64 0,.int .i64 0,.bool false,.int .i64 0] 166)).heap.size≤K:=hk1;rw [World.size_alloc] at hk4;exact hk4
    exact⟨_,K,rfl,((((((O1.out.set hz2 _ _).set hz2 _ _).set hz2 _ _).set hz2 _ _).set hz2 _ _).set hz2 _ _).fst ((((((ZH.out.put 0 _).put 1 _).put 2 _).put 3 _).put 4 _).put 5 _) ((((((h1.set (by omega) 0 _).set (by omega) 1 _).set (by omega) 2 _).set (by omega) 3 _).set (by omega) 4 _).set (by omega) 5 _) hz2 (by omega) (by omega)⟩
 case rest=>
  obtain⟨F,K,rfl,hst⟩:=hcut;have S0:=Lib.hid hst;have a0:=hst.sc.cell 0;have a1:=hst.sc.cell 1;have f1:=hst.sc.free 1;have hFl:=hst.sc.lt;have hF2:=hst.hF;have hK2:=hst.hK;have hFK:=hst.ne;clear hst;have hfl:=fun w h=>Zcp K s0 w h;have hma:=fun w=>Zof v en hen w;by_cases he0:s0.e=0
  · have hP2:Zd9 (if Zdj v en=false then .error (1,0) else ZeS en fb det ls s0) w=P:=by rw [←hP,if_neg (show¬s0.e≠0 by omega)]
    have hbd2:=fun w=>ZT (s0.e:Int) s0.a (by omega) w;clear hP;cases hm:Zdj v en with
    |false=>
     rw [hm] at hma hP2;rw [if_pos rfl] at hP2;have hP3:∀w',Below w.heap.size w w'→P (.returned (.tuple #[.slice none 0 0,.agg #[.int .i64 1,.int .i64 0]])) w':=by
      intro w' hb;rw [←hP2];exact⟨hb,rfl⟩
     have HP:=Lib.hid hP3;clear hP2 hP3 hm he0;go_wp2_with (first
      |(go_at_call 56;refine(hbg K _ S0.out.inn).mono ?_;rintro e w1 ⟨rfl,h1,hb1⟩;have S1:=Lib.hid (S0.out.butK h1 hb1);clear h1 hb1;have b1:=S1.out.sc.cell 1;have g1:=S1.out.sc.free 1;have b0:=S1.out.sc.cell 0;have S2:=Lib.hid (S1.out.setF 1 (.int .u8 (en:Int))))
      |(go_at_call 53;refine(hfl _ S2.out.inn).mono ?_;rintro e w2 ⟨rfl,hb2⟩;have S3:=Lib.hid (S2.out.below hb2);clear hb2)
      |(go_at_call 7;refine(hbd2 _).mono ?_;rintro e w3 ⟨rfl,hb3⟩;have S4:=Lib.hid ((S3.out.alloc _).below hb3);clear hb3;have d1:=S4.out.sc.cell 1;have r0:=S4.out.res.cell 0;have r1:=S4.out.res.cell 1;have r2:=S4.out.res.free 0;have r3:=S4.out.res.free 1)
      |(go_at_call 107;refine(hma _).mono ?_;rintro e w4 ⟨rfl,rfl⟩))
     refine bodyPost_ret (v:= .tuple #[.slice none 0 0,.agg #[.int .i64 1,.int .i64 0]]) (by simp [results,Tryz.results44,go_sem,r0,r1]) rfl ?_;exact HP.out _ ((S4.out.blw.setCell (Nat.le_succ _) _).setCell (Nat.le_succ _) _)
    |true=>
     rw [hm] at hma hP2;rw [if_neg (by decide)] at hP2;have HP2:=Lib.hid hP2;have he0':=Lib.hid he0;have hsz:=Zl (Zm ls);rw [hlen] at hsz;clear hP2 hm he0;go_wp2_with (first
      |(go_at_call 56;refine(hbg K _ S0.out.inn).mono ?_;rintro e w1 ⟨rfl,h1,hb1⟩;have S1:=Lib.hid (S0.out.butK h1 hb1);clear h1 hb1;have b1:=S1.out.sc.cell 1;have g1:=S1.out.sc.free 1;have b0:=S1.out.sc.cell 0;have S2:=Lib.hid (S1.out.setF 1 (.int .u8 (en:Int))))
      |(go_at_call 53;refine(hfl _ S2.out.inn).mono ?_;rintro e w2 ⟨rfl,hb2⟩;have S3:=Lib.hid (S2.out.below hb2);clear hb2)
      |(go_at_call 7;refine(hbd2 _).mono ?_;rintro e w3 ⟨rfl,hb3⟩;have S4:=Lib.hid ((S3.out.alloc _).below hb3);clear hb3;have d1:=S4.out.sc.cell 1;have r0:=S4.out.res.cell 0;have r1:=S4.out.res.cell 1;have r2:=S4.out.res.free 0;have r3:=S4.out.res.free 1)
      |(go_at_call 107;refine(hma _).mono ?_;rintro e w4 ⟨rfl,rfl⟩))
     have S5:Hid (FdSt w w3 F K #[.pointer (some ⟨K,0,none⟩),.int .u8 en,.int .i64 kd,.int .i64 fb,.bool det,.int .i64 bud] s0):=Lib.hid S4.out;clear a0 a1 f1 hFl d1 r0 r1 r2 r3;go_loopw [13,50] (fun vl i wr=>PlRel w F K #[.pointer (some ⟨K,0,none⟩),.int .u8 en,.int .i64 kd,.int .i64 fb,.bool det,.int .i64 bud] (Zbg en (wdF fb det en) ls s0) en (wdF fb det en) ls body w3.heap.size vl i wr) (fun _ i _=>ls.length - (intOf i).toNat)
     case atStart=>exact⟨0,[],s0,Nat.zero_le _,rfl,rfl,hbt,he0'.out,S5,Lib.hid ⟨rfl,.inl ⟨rfl,rfl⟩⟩,Nat.le_refl _,fun _=>rfl,Lib.hid (by rw [List.drop_zero,Zso])⟩
     case round=>
      obtain⟨k,acc,s,hk,rfl,hacc,hst2,hse,hS,hO,hbs,hnil,hPl⟩:=hrel;have hsS:=hS.out.blw.size;have Hacc:=Lib.hid hacc;clear hacc;obtain⟨hl2,A0,c0,hvs,hc0⟩:=ZaL hO.out;subst hvs;by_cases hlt:k<ls.length
      · have hgk:=Zbc (Zm ls) k (by rw [hlen];exact hlt);have hlk:(Zm ls)[k]'(by rw [hlen];exact hlt)=ltB ls[k]:=by simp [Zm]
        rw [hlk] at hgk;have hpi:=HPC.out ls[k] (List.getElem_mem _) K s (by rw [hst2];exact hbd);have hstep:=Zsz en (wdF fb det en) ls k hlt s;have ht:=Zsx en (wdF fb det en) s ls[k];unfold Zbl Zf Zad ptA at hpi;obtain⟨p,s',hps⟩:∃p s',ZK en (wdF fb det en) s ls[k]=(p,s'):=⟨_,_,rfl⟩
        rw [hps] at hpi hstep ht;simp only at hpi hstep ht;have Hstep:=Lib.hid hstep;have Gr:=Lib.hid (G0.out.below hS.out.blw);have hob:∀q,(Value.slice A0 acc.length c0).ownBlock=some q→q<wr.heap.size:=fun q hq=>(hO.out.lt q hq).2;have Hob:=Lib.hid hob;have hkk2:((k:Int)).toNat=k:=by omega
        have hklen:k<(Zm ls).length:=by rw [hlen];exact hlt
        clear hstep hps hlk hob;generalize ltB ls[k]=ch at*;go_upto_region 15 with fail
        go_cut [15] (fun s15 wx=>∃G,s15= .pointer (some ⟨G,0,none⟩)∧PcC w wx F K G w3.heap.size #[.pointer (some ⟨K,0,none⟩),.int .u8 en,.int .i64 kd,.int .i64 fb,.bool det,.int .i64 bud] s' acc (.slice A0 acc.length c0) p)
        case first=>
         have hKr:=hS.out.inn.lt;have hFr:=hS.out.sc.lt;have GrD:Hid (Grd wr.drew):=Lib.hid (Gr.out.below (below_drewN (Below.refl _ _) 1));have GrA:Hid (Grd (wr.alloc (.cells #[.string ⟨#[]⟩,.bool false,.string ⟨#[]⟩,.int .i64 0] 39))):=Lib.hid (Gr.out.alloc _);have GrAD:Hid (Grd (wr.alloc (.cells #[.string ⟨#[]⟩,.bool false,.string ⟨#[]⟩,.int .i64 0] 39)).drew):=Lib.hid (GrA.out.below (below_drewN (Below.refl _ _) 1));have OD:Hid (wr.drew.ownsRow w3.heap.size 39 4 (.slice A0 acc.length c0) acc.length (acc.flatMap ptL)):=Lib.hid hO.out;have OA:Hid ((wr.alloc (.cells #[.string ⟨#[]⟩,.bool false,.string ⟨#[]⟩,.int .i64 0] 39)).ownsRow w3.heap.size 39 4 (.slice A0 acc.length c0) acc.length (acc.flatMap ptL)):=Lib.hid (hO.out.alloc _);have OAD:Hid ((wr.alloc (.cells #[.string ⟨#[]⟩,.bool false,.string ⟨#[]⟩,.int .i64 0] 39)).drew.ownsRow w3.heap.size 39 4 (.slice A0 acc.length c0) acc.length (acc.flatMap ptL)):=Lib.hid OA.out;have hKw3:K<w3.heap.size:=S5.out.inn.lt;go_region_held3 (fun w'=>w'.cell? ⟨F,0,none⟩=some (.pointer (some ⟨K,0,none⟩))∧w'.cell? ⟨F,1,none⟩=some (.int .u8 (en:Int))∧w'.cell? ⟨F,2,none⟩=some (.int .i64 kd)∧w'.cell? ⟨F,3,none⟩=some (.int .i64 (fb:Int))∧w'.cell? ⟨F,4,none⟩=some (.bool det)∧w'.cell? ⟨F,5,none⟩=some (.int .i64 bud))
          (first|with_reducible exact hS.out.six|with_reducible exact hS.out.drew.six|with_reducible exact(hS.out.alloc _).six|with_reducible exact(hS.out.alloc _).drew.six|with_reducible exact(hS.out.drew.alloc _).six|with_reducible exact S6.out.six|with_reducible exact(S6.out.alloc _).six|with_reducible exact S6.out.drew.six|with_reducible exact((((S6.out.setO (g:=wr.heap.size) (by omega) (by omega) (by omega) 0 _).setO (g:=wr.heap.size) (by omega) (by omega) (by omega) 1 _).setO (g:=wr.heap.size) (by omega) (by omega) (by omega) 2 _).setO (g:=wr.heap.size) (by omega) (by omega) (by omega) 3 _).six)
          (first|(go_at_call 108;refine(hpi _ (by first|with_reducible exact GrD.out|with_reducible exact GrAD.out|with_reducible exact Gr.out|with_reducible exact GrA.out) (by first|with_reducible exact hS.out.drew.inn|with_reducible exact(hS.out.alloc _).drew.inn|with_reducible exact hS.out.inn|with_reducible exact(hS.out.alloc _).inn)).mono ?_;rintro e w6 ⟨rfl,h6,hb6⟩;have S6:=Lib.hid (by first|with_reducible exact hS.out.drew.butK h6 hb6|with_reducible exact(hS.out.alloc _).drew.butK h6 hb6|with_reducible exact hS.out.butK h6 hb6|with_reducible exact(hS.out.alloc _).butK h6 hb6);have O6:=Lib.hid (by first|with_reducible exact Zdn OD.out hb6 hKw3|with_reducible exact Zdn OAD.out hb6 hKw3|with_reducible exact Zdn hO.out hb6 hKw3|with_reducible exact Zdn OA.out hb6 hKw3);have hz6:=hb6.size;first|(have ZX:Bx w6 wr.heap.size #[.string ⟨#[]⟩,.bool false,.string ⟨#[]⟩,.int .i64 0] 39:=Bx.but (w:=(wr.alloc (.cells #[.string ⟨#[]⟩,.bool false,.string ⟨#[]⟩,.int .i64 0] 39))) (Bx.new wr _ _) hb6 (by omega);have ZH:=Lib.hid ZX;obtain⟨⟨x0,x1,x2,x3⟩,xf,xl⟩:=ZX.four;clear ZX)|(have ZX:Bx w6 wr.heap.size #[.string ⟨#[]⟩,.bool false,.string ⟨#[]⟩,.int .i64 0] 39:=Bx.but (w:=(wr.alloc (.cells #[.string ⟨#[]⟩,.bool false,.string ⟨#[]⟩,.int .i64 0] 39)).drew) (Bx.new wr _ _) hb6 (by omega);have ZH:=Lib.hid ZX;obtain⟨⟨x0,x1,x2,x3⟩,xf,xl⟩:=ZX.four;clear ZX)|skip))
         · go_wp2_with fail
           go_meet
           exact⟨_,rfl,S6.out.alloc _,O6.out.alloc _,Bx.new w6 _ _,by have h9:wr.heap.size≤w6.heap.size:=hz6;simp;omega⟩
         · go_wp2_with fail
           go_meet
           exact⟨_,rfl,((((S6.out.setO (g:=wr.heap.size) (by omega) (by omega) (by omega) 0 _).setO (g:=wr.heap.size) (by omega) (by omega) (by omega) 1 _).setO (g:=wr.heap.size) (by omega) (by omega) (by omega) 2 _).setO (g:=wr.heap.size) (by omega) (by omega) (by omega) 3 _),Zdo (Zdo (Zdo (Zdo O6.out Hob.out 0 _) Hob.out 1 _) Hob.out 2 _) Hob.out 3 _,(((ZH.out.put 0 _).put 1 _).put 2 _).put 3 _,by simp [World.setCell];omega⟩
         · go_wp2_with fail
           go_meet
           exact⟨_,rfl,((((S6.out.setO (g:=wr.heap.size) (by omega) (by omega) (by omega) 0 _).setO (g:=wr.heap.size) (by omega) (by omega) (by omega) 1 _).setO (g:=wr.heap.size) (by omega) (by omega) (by omega) 2 _).setO (g:=wr.heap.size) (by omega) (by omega) (by omega) 3 _),Zdo (Zdo (Zdo (Zdo O6.out Hob.out 0 _) Hob.out 1 _) Hob.out 2 _) Hob.out 3 _,(((ZH.out.put 0 _).put 1 _).put 2 _).put 3 _,by simp [World.setCell];omega⟩
        case rest=>
         obtain⟨G,rfl,hpc⟩:=hcut;have hfl2:=fun w h=>Zcp K s' w h;have hbw:=hpc.hb;have C0:=Lib.hid hpc;have c0':=hpc.st.sc.cell 0;have hcb:=hpc.st.blw.size;clear hpc;by_cases hse2:s'.e=0
         · have hbd3:=fun w=>ZT (s'.e:Int) s'.a (by omega) w;have hpl2:Hid (Zbg en (wdF fb det en) ls s0=Zc3 (acc++[p]) (Zbg en (wdF fb det en) (ls.drop (k+1)) s')):=Lib.hid (by rw [hPl.out,Hstep.out,if_neg (by omega),Zsp]);have ht2:=Lib.hid (ht.trans hst2);have hse3:=Lib.hid hse2;have hF2w:=hS.out.hF;have hFw3:F<w3.heap.size:=S5.out.sc.lt;have hKw3:K<w3.heap.size:=S5.out.inn.lt;have hacc2:acc.length≤16777216:=by have:=Hacc.out;omega
           clear hse2 ht;go_wp2_with (first
            |(go_at_call 53;refine(hfl2 _ C0.out.st.inn).mono ?_;rintro e w7 ⟨rfl,hb7⟩;have C7:=Lib.hid (C0.out.below hb7);clear hb7)
            |(go_at_call 7;refine(hbd3 _).mono ?_;rintro e w8 ⟨rfl,hb8⟩;have C8:=Lib.hid ((C7.out.alloc _).below hb8);clear hb8;obtain⟨⟨p0,p1,p2,p3⟩,pf,pl⟩:=C8.out.pt.four)
            |(at_builtin;refine app_pt rfl _ _ rfl w3.heap.size (.slice A0 acc.length c0) acc rfl w8 p _ rfl C8.out.own C8.out.hb hacc2 rfl ?_;intro v6 w9 HO6 hb6 hg6))
           have S9:=Lib.hid (C8.out.st.low hb6 hFw3 hKw3 (by omega));have hz9:=hb6.size;have hbb:=C8.out.hb;clear hb6 hg6 p0 p1 p2 p3 pf;go_roundw
           case rel=>exact⟨k+1,acc++[p],s',by omega,by go_num,by rw [List.length_append,Hacc.out];rfl,ht2.out,hse3.out,S9,HO6,by omega,fun h=>absurd h (by simp),hpl2⟩
           case measure=>simp [intOf];omega
         · have hbd3:=fun w=>Zaq (s'.e:Int) s'.a (by omega) w;have hP3:∀w',Below w.heap.size w w'→P (.returned (.tuple #[.slice none 0 0,.agg #[.int .i64 (s'.e:Nat),.int .i64 (s'.a:Nat)]])) w':=by
            intro w' hb;rw [←HP2.out];unfold ZeS;rw [hPl.out,Hstep.out,if_pos hse2];exact⟨hb,rfl⟩
           have HP:=Lib.hid hP3;clear hP3 hse2;go_wp2_with (first
            |(go_at_call 53;refine(hfl2 _ C0.out.st.inn).mono ?_;rintro e w7 ⟨rfl,hb7⟩;have S7:=Lib.hid (C0.out.st.below hb7);clear hb7)
            |(go_at_call 7;refine(hbd3 _).mono ?_;rintro e w8 ⟨rfl,hb8⟩;have Z8:=Lib.hid ((Bx.new w7 _ _).below hb8);have S8:=Lib.hid ((S7.out.alloc _).below hb8);clear hb8;have z0:=Z8.out.cell 0;have z1:=Z8.out.cell 1;have r0:=S8.out.res.cell 0;have r1:=S8.out.res.cell 1;have r2:=S8.out.res.free 0;have r3:=S8.out.res.free 1))
           go_region
           go_wp2_with fail
           refine bodyPost_ret (v:= .tuple #[.slice none 0 0,.agg #[.int .i64 (s'.e:Nat),.int .i64 (s'.a:Nat)]]) (by simp [results,Tryz.results44,go_sem,r0,r1]) rfl ?_;exact HP.out _ (((S8.out.blw.setCell (Nat.le_succ _) _).setCell (Nat.le_succ _) _).drew)
      · have hfin:Hid (Zbg en (wdF fb det en) ls s0= .ok (acc,s)):=Lib.hid (by rw [hPl.out,show ls.drop k=[] from List.drop_of_length_le (by omega)];simp [Zbg,Zc3]);have r0:=hS.out.res.cell 0;have r1:=hS.out.res.cell 1;have r2:=hS.out.res.free 0;have r3:=hS.out.res.free 1;have hwl:=S5.out.sc.lt;have hFw:=S5.out.hF;have hrow:Hid (Zi ptL w3.heap.size wr (.slice A0 acc.length c0) acc):=Lib.hid (Zi.of_own rfl hO.out hnil);have HP3:∀w',Below w.heap.size w w'→Zi ptL w.heap.size w' (.slice A0 acc.length c0) acc→P (.returned (.tuple #[.slice A0 acc.length c0,.agg #[.int .i64 0,.int .i64 0]])) w':=by
         intro w' h1 h2;rw [←HP2.out];unfold ZeS;rw [hfin.out];exact⟨h1,_,rfl,h2⟩
        have HP4:=Lib.hid HP3;clear HP3;go_wp2_with fail
        refine bodyPost_ret (v:= .tuple #[.slice A0 acc.length c0,.agg #[.int .i64 0,.int .i64 0]]) (by simp [results,Tryz.results44,go_sem,r0,r1]) rfl ?_;exact HP4.out _ ((hS.out.blw.setCell (Nat.le_succ _) _).setCell (Nat.le_succ _) _) ((Zi.set (Zi.set hrow.out (by omega) 0 _) (by omega) 1 _).low (by omega))
  · have hP2:∀w',Below w.heap.size w w'→P (.returned (.tuple #[.slice none 0 0,.agg #[.int .i64 (s0.e:Nat),.int .i64 (s0.a:Nat)]])) w':=by
     intro w' hb;rw [←hP,if_pos he0];exact⟨hb,rfl⟩
    have HP:=Lib.hid hP2;have hbd2:=fun w=>Zaq (s0.e:Int) s0.a (by omega) w;clear hP hP2 he0;go_wp2_with (first
     |(go_at_call 56;refine(hbg K _ S0.out.inn).mono ?_;rintro e w1 ⟨rfl,h1,hb1⟩;have S1:=Lib.hid (S0.out.butK h1 hb1);clear h1 hb1;have b1:=S1.out.sc.cell 1;have g1:=S1.out.sc.free 1;have b0:=S1.out.sc.cell 0;have S2:=Lib.hid (S1.out.setF 1 (.int .u8 (en:Int))))
     |(go_at_call 53;refine(hfl _ S2.out.inn).mono ?_;rintro e w2 ⟨rfl,hb2⟩;have S3:=Lib.hid (S2.out.below hb2);clear hb2)
     |(go_at_call 7;refine(hbd2 _).mono ?_;rintro e w3 ⟨rfl,hb3⟩;have Z3:=Lib.hid ((Bx.new w2 _ _).below hb3);have S4:=Lib.hid ((S3.out.alloc _).below hb3);clear hb3;have z0:=Z3.out.cell 0;have z1:=Z3.out.cell 1;have r0:=S4.out.res.cell 0;have r1:=S4.out.res.cell 1;have r2:=S4.out.res.free 0;have r3:=S4.out.res.free 1))
    go_region
    go_wp2_with fail
    refine bodyPost_ret (v:= .tuple #[.slice none 0 0,.agg #[.int .i64 (s0.e:Nat),.int .i64 (s0.a:Nat)]]) (by simp [results,Tryz.results44,go_sem,r0,r1]) rfl ?_;exact HP.out _ (((S4.out.blw.setCell (Nat.le_succ _) _).setCell (Nat.le_succ _) _).drew)
structure Pi where
 nm:ByteArray
 raw:Bool
 text:List UInt8
 set:Int
def piL (p:Pi):List Value:=[.string p.nm,.bool p.raw,.string (B p.text),.int .i64 p.set]
def piA (p:Pi):Array Value:=#[.string p.nm,.bool p.raw,.string (B p.text),.int .i64 p.set]
def ZcB (p:Pt):Pi:=⟨B (ltN p.l),p.raw,p.text,(p.set:Nat)⟩
theorem ZsQ (l:List Pt):l.flatMap ptL=(l.map ZcB).flatMap piL:=by rw [List.flatMap_map];rfl
def ZY:Lt→Bool
 | .desc=>true
 | .text=>true
 |_=>false
def Zc8 (t:List UInt8):Bool:=decide (0≤Lib.indexByte t 0)
def Zh (l:Lt)(p:Pi):Nat:=if p.raw=ZY l then 5 else match l with
 | .lang=>if p.text.length=3 then 0 else 5
 | .fmt=>if p.text.length=3 then 0 else 5
 | .kind=>if p.text.length=1 then 0 else 5
 | .mime=>if Zc8 p.text then 5 else 0
 | .desc=>if Zc8 p.text then 5 else if Zbz p.text then 0 else 2
 | .text=>if Zbz p.text then 0 else 2
 | .data=>0
theorem Zav (t:List UInt8)(w:World):Calls Tryz.prog 250 #[.string (B t),.int .u8 0] w fun e w'=>e= .returned (.int .i64 (Lib.indexByte t 0))∧w=w':=by
 refine(Tryz.strings_IndexByte _ _ w).mono ?_;rintro e w' ⟨rfl,rfl⟩;refine⟨ZbU ?_,rfl⟩;rw [ZaA];rfl
theorem ZnN (p:Pi)(hl:p.text.length≤100000)(w:World)(hG:Grd w):Calls Tryz.prog 222 #[.int .u8 (ltB .lang).toNat,.agg (piA p)] w fun e w'=>e= .returned (.int .i64 ((Zh .lang p:Nat):Int))∧Below w.heap.size w w':=by
 obtain⟨nm,raw,t,st⟩:=p;simp only at hl;have hsz:=Zl t;have hva:=fun w (hG:Grd w)=>ZdF t hl w hG.tabs;unfold piA ltB;simp only;cases raw with
 |false=>
  rw [show Zh _ _=5 from by unfold Zh;simp [ZY]];go_enter Tryz.func222,Tryz.ntmps222
  go_wp2_with (first|(go_at_call 250;refine(Zav _ _).mono ?_;rintro e w1 ⟨rfl,rfl⟩)|(go_at_call 34;refine(hva _ (hG.alloc _)).mono ?_;rintro e w2 ⟨rfl,hb2⟩))
  go_ret
  exact⟨rfl,(Below.refl _ _).alloc (Nat.le_refl _) _⟩
 |true=>
  by_cases h:t.length=3
  · have e1:((t.length:Int)==3)=true:=by simp;omega
    have e2:((t.length:Int) !=3)=false:=by simp;omega
    rw [show Zh _ _=0 from by unfold Zh;simp [ZY,h]];go_enter Tryz.func222,Tryz.ntmps222
    go_wp2_with (first|(go_at_call 250;refine(Zav _ _).mono ?_;rintro e w1 ⟨rfl,rfl⟩)|(go_at_call 34;refine(hva _ (hG.alloc _)).mono ?_;rintro e w2 ⟨rfl,hb2⟩))
    go_ret
    exact⟨rfl,(Below.refl _ _).alloc (Nat.le_refl _) _⟩
  · have e1:((t.length:Int)==3)=false:=by simp;omega
    have e2:((t.length:Int) !=3)=true:=by simp;omega
    rw [show Zh _ _=5 from by unfold Zh;simp [ZY,h]];go_enter Tryz.func222,Tryz.ntmps222
    go_wp2_with (first|(go_at_call 250;refine(Zav _ _).mono ?_;rintro e w1 ⟨rfl,rfl⟩)|(go_at_call 34;refine(hva _ (hG.alloc _)).mono ?_;rintro e w2 ⟨rfl,hb2⟩))
    go_ret
    exact⟨rfl,(Below.refl _ _).alloc (Nat.le_refl _) _⟩
theorem ZnL (p:Pi)(hl:p.text.length≤100000)(w:World)(hG:Grd w):Calls Tryz.prog 222 #[.int .u8 (ltB .fmt).toNat,.agg (piA p)] w fun e w'=>e= .returned (.int .i64 ((Zh .fmt p:Nat):Int))∧Below w.heap.size w w':=by
 obtain⟨nm,raw,t,st⟩:=p;simp only at hl;have hsz:=Zl t;have hva:=fun w (hG:Grd w)=>ZdF t hl w hG.tabs;unfold piA ltB;simp only;cases raw with
 |false=>
  rw [show Zh _ _=5 from by unfold Zh;simp [ZY]];go_enter Tryz.func222,Tryz.ntmps222
  go_wp2_with (first|(go_at_call 250;refine(Zav _ _).mono ?_;rintro e w1 ⟨rfl,rfl⟩)|(go_at_call 34;refine(hva _ (hG.alloc _)).mono ?_;rintro e w2 ⟨rfl,hb2⟩))
  go_ret
  exact⟨rfl,(Below.refl _ _).alloc (Nat.le_refl _) _⟩
 |true=>
  by_cases h:t.length=3
  · have e1:((t.length:Int)==3)=true:=by simp;omega
    have e2:((t.length:Int) !=3)=false:=by simp;omega
    rw [show Zh _ _=0 from by unfold Zh;simp [ZY,h]];go_enter Tryz.func222,Tryz.ntmps222
    go_wp2_with (first|(go_at_call 250;refine(Zav _ _).mono ?_;rintro e w1 ⟨rfl,rfl⟩)|(go_at_call 34;refine(hva _ (hG.alloc _)).mono ?_;rintro e w2 ⟨rfl,hb2⟩))
    go_ret
    exact⟨rfl,(Below.refl _ _).alloc (Nat.le_refl _) _⟩
  · have e1:((t.length:Int)==3)=false:=by simp;omega
    have e2:((t.length:Int) !=3)=true:=by simp;omega
    rw [show Zh _ _=5 from by unfold Zh;simp [ZY,h]];go_enter Tryz.func222,Tryz.ntmps222
    go_wp2_with (first|(go_at_call 250;refine(Zav _ _).mono ?_;rintro e w1 ⟨rfl,rfl⟩)|(go_at_call 34;refine(hva _ (hG.alloc _)).mono ?_;rintro e w2 ⟨rfl,hb2⟩))
    go_ret
    exact⟨rfl,(Below.refl _ _).alloc (Nat.le_refl _) _⟩
theorem ZnO (p:Pi)(hl:p.text.length≤100000)(w:World)(hG:Grd w):Calls Tryz.prog 222 #[.int .u8 (ltB .mime).toNat,.agg (piA p)] w fun e w'=>e= .returned (.int .i64 ((Zh .mime p:Nat):Int))∧Below w.heap.size w w':=by
 obtain⟨nm,raw,t,st⟩:=p;simp only at hl;have hsz:=Zl t;have hva:=fun w (hG:Grd w)=>ZdF t hl w hG.tabs;unfold piA ltB;simp only;cases raw with
 |false=>
  rw [show Zh _ _=5 from by unfold Zh;simp [ZY]];go_enter Tryz.func222,Tryz.ntmps222
  go_wp2_with (first|(go_at_call 250;refine(Zav _ _).mono ?_;rintro e w1 ⟨rfl,rfl⟩)|(go_at_call 34;refine(hva _ (hG.alloc _)).mono ?_;rintro e w2 ⟨rfl,hb2⟩))
  go_ret
  exact⟨rfl,(Below.refl _ _).alloc (Nat.le_refl _) _⟩
 |true=>
  by_cases h:0≤Lib.indexByte t 0
  · rw [show Zh _ _=5 from by unfold Zh;simp [ZY,Zc8,h]];go_enter Tryz.func222,Tryz.ntmps222
    go_wp2_with (first|(go_at_call 250;refine(Zav _ _).mono ?_;rintro e w1 ⟨rfl,rfl⟩)|(go_at_call 34;refine(hva _ (hG.alloc _)).mono ?_;rintro e w2 ⟨rfl,hb2⟩))
    go_ret
    exact⟨rfl,(Below.refl _ _).alloc (Nat.le_refl _) _⟩
  · rw [show Zh _ _=0 from by unfold Zh;simp [ZY,Zc8,h]];go_enter Tryz.func222,Tryz.ntmps222
    go_wp2_with (first|(go_at_call 250;refine(Zav _ _).mono ?_;rintro e w1 ⟨rfl,rfl⟩)|(go_at_call 34;refine(hva _ (hG.alloc _)).mono ?_;rintro e w2 ⟨rfl,hb2⟩))
    go_ret
    exact⟨rfl,(Below.refl _ _).alloc (Nat.le_refl _) _⟩
theorem ZnM (p:Pi)(hl:p.text.length≤100000)(w:World)(hG:Grd w):Calls Tryz.prog 222 #[.int .u8 (ltB .kind).toNat,.agg (piA p)] w fun e w'=>e= .returned (.int .i64 ((Zh .kind p:Nat):Int))∧Below w.heap.size w w':=by
 obtain⟨nm,raw,t,st⟩:=p;simp only at hl;have hsz:=Zl t;have hva:=fun w (hG:Grd w)=>ZdF t hl w hG.tabs;unfold piA ltB;simp only;cases raw with
 |false=>
  rw [show Zh _ _=5 from by unfold Zh;simp [ZY]];go_enter Tryz.func222,Tryz.ntmps222
  go_wp2_with (first|(go_at_call 250;refine(Zav _ _).mono ?_;rintro e w1 ⟨rfl,rfl⟩)|(go_at_call 34;refine(hva _ (hG.alloc _)).mono ?_;rintro e w2 ⟨rfl,hb2⟩))
  go_ret
  exact⟨rfl,(Below.refl _ _).alloc (Nat.le_refl _) _⟩
 |true=>
  by_cases h:t.length=1
  · have e1:((t.length:Int)==1)=true:=by simp;omega
    have e2:((t.length:Int) !=1)=false:=by simp;omega
    rw [show Zh _ _=0 from by unfold Zh;simp [ZY,h]];go_enter Tryz.func222,Tryz.ntmps222
    go_wp2_with (first|(go_at_call 250;refine(Zav _ _).mono ?_;rintro e w1 ⟨rfl,rfl⟩)|(go_at_call 34;refine(hva _ (hG.alloc _)).mono ?_;rintro e w2 ⟨rfl,hb2⟩))
    go_ret
    exact⟨rfl,(Below.refl _ _).alloc (Nat.le_refl _) _⟩
  · have e1:((t.length:Int)==1)=false:=by simp;omega
    have e2:((t.length:Int) !=1)=true:=by simp;omega
    rw [show Zh _ _=5 from by unfold Zh;simp [ZY,h]];go_enter Tryz.func222,Tryz.ntmps222
    go_wp2_with (first|(go_at_call 250;refine(Zav _ _).mono ?_;rintro e w1 ⟨rfl,rfl⟩)|(go_at_call 34;refine(hva _ (hG.alloc _)).mono ?_;rintro e w2 ⟨rfl,hb2⟩))
    go_ret
    exact⟨rfl,(Below.refl _ _).alloc (Nat.le_refl _) _⟩
theorem ZnK (p:Pi)(hl:p.text.length≤100000)(w:World)(hG:Grd w):Calls Tryz.prog 222 #[.int .u8 (ltB .desc).toNat,.agg (piA p)] w fun e w'=>e= .returned (.int .i64 ((Zh .desc p:Nat):Int))∧Below w.heap.size w w':=by
 obtain⟨nm,raw,t,st⟩:=p;simp only at hl;have hsz:=Zl t;have hva:=fun w (hG:Grd w)=>ZdF t hl w hG.tabs;unfold piA ltB;simp only;cases raw with
 |false=>
  by_cases h:0≤Lib.indexByte t 0
  · rw [show Zh _ _=5 from by unfold Zh;simp [ZY,Zc8,h]];go_enter Tryz.func222,Tryz.ntmps222
    go_wp2_with (first|(go_at_call 250;refine(Zav _ _).mono ?_;rintro e w1 ⟨rfl,rfl⟩)|(go_at_call 34;refine(hva _ (hG.alloc _)).mono ?_;rintro e w2 ⟨rfl,hb2⟩))
    go_ret
    exact⟨rfl,(Below.refl _ _).alloc (Nat.le_refl _) _⟩
  · cases hu:Zbz t with
    |false=>
     rw [hu] at hva;rw [show Zh _ _=2 from by unfold Zh;simp [ZY,Zc8,h,hu]];go_enter Tryz.func222,Tryz.ntmps222
     go_wp2_with (first|(go_at_call 250;refine(Zav _ _).mono ?_;rintro e w1 ⟨rfl,rfl⟩)|(go_at_call 34;refine(hva _ (hG.alloc _)).mono ?_;rintro e w2 ⟨rfl,hb2⟩))
     go_ret
     exact⟨rfl,Ze hb2⟩
    |true=>
     rw [hu] at hva;rw [show Zh _ _=0 from by unfold Zh;simp [ZY,Zc8,h,hu]];go_enter Tryz.func222,Tryz.ntmps222
     go_wp2_with (first|(go_at_call 250;refine(Zav _ _).mono ?_;rintro e w1 ⟨rfl,rfl⟩)|(go_at_call 34;refine(hva _ (hG.alloc _)).mono ?_;rintro e w2 ⟨rfl,hb2⟩))
     go_ret
     exact⟨rfl,Ze hb2⟩
 |true=>
  rw [show Zh _ _=5 from by unfold Zh;simp [ZY]];go_enter Tryz.func222,Tryz.ntmps222
  go_wp2_with (first|(go_at_call 250;refine(Zav _ _).mono ?_;rintro e w1 ⟨rfl,rfl⟩)|(go_at_call 34;refine(hva _ (hG.alloc _)).mono ?_;rintro e w2 ⟨rfl,hb2⟩))
  go_ret
  exact⟨rfl,(Below.refl _ _).alloc (Nat.le_refl _) _⟩
theorem ZnP (p:Pi)(hl:p.text.length≤100000)(w:World)(hG:Grd w):Calls Tryz.prog 222 #[.int .u8 (ltB .text).toNat,.agg (piA p)] w fun e w'=>e= .returned (.int .i64 ((Zh .text p:Nat):Int))∧Below w.heap.size w w':=by
 obtain⟨nm,raw,t,st⟩:=p;simp only at hl;have hsz:=Zl t;have hva:=fun w (hG:Grd w)=>ZdF t hl w hG.tabs;unfold piA ltB;simp only;cases raw with
 |false=>
  cases hu:Zbz t with
  |false=>
   rw [hu] at hva;rw [show Zh _ _=2 from by unfold Zh;simp [ZY,hu]];go_enter Tryz.func222,Tryz.ntmps222
   go_wp2_with (first|(go_at_call 250;refine(Zav _ _).mono ?_;rintro e w1 ⟨rfl,rfl⟩)|(go_at_call 34;refine(hva _ (hG.alloc _)).mono ?_;rintro e w2 ⟨rfl,hb2⟩))
   go_ret
   exact⟨rfl,Ze hb2⟩
  |true=>
   rw [hu] at hva;rw [show Zh _ _=0 from by unfold Zh;simp [ZY,hu]];go_enter Tryz.func222,Tryz.ntmps222
   go_wp2_with (first|(go_at_call 250;refine(Zav _ _).mono ?_;rintro e w1 ⟨rfl,rfl⟩)|(go_at_call 34;refine(hva _ (hG.alloc _)).mono ?_;rintro e w2 ⟨rfl,hb2⟩))
   go_ret
   exact⟨rfl,Ze hb2⟩
 |true=>
  rw [show Zh _ _=5 from by unfold Zh;simp [ZY]];go_enter Tryz.func222,Tryz.ntmps222
  go_wp2_with (first|(go_at_call 250;refine(Zav _ _).mono ?_;rintro e w1 ⟨rfl,rfl⟩)|(go_at_call 34;refine(hva _ (hG.alloc _)).mono ?_;rintro e w2 ⟨rfl,hb2⟩))
  go_ret
  exact⟨rfl,(Below.refl _ _).alloc (Nat.le_refl _) _⟩
theorem ZnJ (p:Pi)(hl:p.text.length≤100000)(w:World)(hG:Grd w):Calls Tryz.prog 222 #[.int .u8 (ltB .data).toNat,.agg (piA p)] w fun e w'=>e= .returned (.int .i64 ((Zh .data p:Nat):Int))∧Below w.heap.size w w':=by
 obtain⟨nm,raw,t,st⟩:=p;simp only at hl;have hsz:=Zl t;have hva:=fun w (hG:Grd w)=>ZdF t hl w hG.tabs;unfold piA ltB;simp only;cases raw with
 |false=>
  rw [show Zh _ _=5 from by unfold Zh;simp [ZY]];go_enter Tryz.func222,Tryz.ntmps222
  go_wp2_with (first|(go_at_call 250;refine(Zav _ _).mono ?_;rintro e w1 ⟨rfl,rfl⟩)|(go_at_call 34;refine(hva _ (hG.alloc _)).mono ?_;rintro e w2 ⟨rfl,hb2⟩))
  go_ret
  exact⟨rfl,(Below.refl _ _).alloc (Nat.le_refl _) _⟩
 |true=>
  rw [show Zh _ _=0 from by unfold Zh;simp [ZY]];go_enter Tryz.func222,Tryz.ntmps222
  go_wp2_with (first|(go_at_call 250;refine(Zav _ _).mono ?_;rintro e w1 ⟨rfl,rfl⟩)|(go_at_call 34;refine(hva _ (hG.alloc _)).mono ?_;rintro e w2 ⟨rfl,hb2⟩))
  go_ret
  exact⟨rfl,(Below.refl _ _).alloc (Nat.le_refl _) _⟩
theorem ZnQ (l:Lt)(p:Pi)(hl:p.text.length≤100000)(w:World)(hG:Grd w):Calls Tryz.prog 222 #[.int .u8 (ltB l).toNat,.agg (piA p)] w fun e w'=>e= .returned (.int .i64 ((Zh l p:Nat):Int))∧Below w.heap.size w w':=by
 cases l
 · exact ZnN p hl w hG
 · exact ZnL p hl w hG
 · exact ZnO p hl w hG
 · exact ZnM p hl w hG
 · exact ZnK p hl w hG
 · exact ZnP p hl w hG
 · exact ZnJ p hl w hG
end Go.Proofs.YtecandjkbbpooaaGreatDoor
