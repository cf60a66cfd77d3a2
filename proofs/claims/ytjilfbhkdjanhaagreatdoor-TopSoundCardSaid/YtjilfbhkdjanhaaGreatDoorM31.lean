/- Lemmas for a statement on the tops; conditions: as each says. -/
import Derived.Test.YtjilfbhkdjanhaaGreatDoorM30
set_option linter.all false
set_option maxRecDepth 100000
set_option maxHeartbeats 4000000
open Go.Proofs.Tryz
namespace Go.Proofs.YtjilfbhkdjanhaaGreatDoor
open Go Go.RowKit
def ptL(p:Pt):List Value:=[.string (B (ltN p.l)),.bool p.raw,.string (B p.text),.int .i64 (p.set:Nat)]
def ptA_L(p:Pt):ptA p=(ptL p).toArray:=rfl
def ZvI:(prog.info? 182).map (λi=>(i.zero,i.size,i.bytes))=some (some (.agg #[.string ⟨#[]⟩,.bool false,.string ⟨#[]⟩,.int .i64 0]),4,48):=by kernel_rfl
section
variable {ops:Array Oper} {rest:List Oper} {o:Oper} {a:Act} {Q:Exit->Act->World->Prop}
theorem app_pt(N:o.guard=none)(s x:Operand)(ho:o.op=.call {callee:=.builtin .append,args:=#[s,x],argTypes:=#[135,135]})(base:Nat)(v:Value)(L:List Pt)(hs:a.eval s=v)(W:World)(p:Pt)(cs:Array Value)(O:cs=ptA p)
 (q:W.ownsRow base 182 4 v L.length (L.flatMap ptL)) (C:base<=W.heap.size) (X:L.length<=16777216) (hx:a.eval x=.slice (some ⟨W.heap.size,0,none⟩) 1 1)
 (h:∀U w',Hid (w'.ownsRow base 182 4 U (L++[p]).length ((L++[p]).flatMap ptL))->Below base W w'->W.grownBy w' v.ownBlock->wpList prog ops Q rest (a.put o.dst U) w'):
 wpList prog ops Q (o::rest) a (W.alloc (.cells cs 182)):=by
 obtain⟨i0,hi,J,I,D⟩:=info_parts ZvI;rw[O,ptA_L];refine wpList_append_own _ N s x 135 ho base 182 i0 _ 4 48 underlying135 hi J I D rfl (by decide) v L.length _ hs (q.alloc _) ⟨W.heap.size,0,none⟩ 1 1 (ptL p) hx rfl (Zgo W (ptL p) _) ?_ (by unfold maxLen;omega) (by omega) (by simp;omega) ?_
 ·intro u V;simp only[ptL,List.mem_cons,List.not_mem_nil,or_false] at V;rcases V with rfl|rfl|rfl|rfl<;>rfl
 ·intro Z Y y j _;refine h Z Y (QQ ?_) (Zad ((Below.refl _ W).alloc C _) (q.alloc _) j (by simp;omega) (Nat.le_refl _)) ⟨j.os,j.tape,j.output,by have:=j.size;simp at this;omega,λk hk hc=>(j.block k (by simp;omega) hc).trans (Below.heap_alloc _ _ _ hk)⟩;rw[List.flatMap_append,List.length_append];simpa[ptL] using y
end
structure FdSt (w wx:World)(F K:Nat)(BX:Array Value)(s:InS):Prop where
 sc:Bx wx F BX 191
 res:Bx wx (w.heap.size+1) #[.int .i64 0,.int .i64 0] 34
 inn:InAt wx K s
 blw:Below w.heap.size w wx
 hF:w.heap.size+2<=F
 hK:w.heap.size+2<=K
 ne:F≠K
section
variable {w wx wy:World} {F K:Nat} {BX:Array Value} {s s':InS}
theorem FdSt.below(h:FdSt w wx F K BX s)(hb:Below wx.heap.size wx wy):FdSt w wy F K BX s:=
 ⟨h.sc.below hb,h.res.below hb,h.inn.below hb,h.blw.trans (hb.mono h.blw.size),h.hF,h.hK,h.ne⟩
theorem FdSt.butK(h:FdSt w wx F K BX s)(j:InAt wy K s')(hb:But K wx.heap.size wx wy):FdSt w wy F K BX s':=
 ⟨h.sc.but hb h.ne,h.res.but hb (by have:=h.hK;omega),j,h.blw.trans ((hb.mono h.blw.size).below (by have:=h.hK;omega)),h.hF,h.hK,h.ne⟩
theorem FdSt.drewN(h:FdSt w wx F K BX s)(n:Nat):FdSt w (wx.drewN n) F K BX s:=h.below (below_drewN (Below.refl _ _) n)
theorem FdSt.drew(h:FdSt w wx F K BX s):FdSt w wx.drew F K BX s:=h.drewN 1
theorem FdSt.alloc(h:FdSt w wx F K BX s)(o:Obj):FdSt w (wx.alloc o) F K BX s:=h.below ((Below.refl _ _).alloc (Nat.le_refl _) _)
theorem FdSt.setO(h:FdSt w wx F K BX s){g:Nat}(q:w.heap.size+2<=g)(hF:g≠F)(hK:g≠K)(j:Nat)(v:Value):FdSt w (wx.setCell ⟨g,j,none⟩ v) F K BX s:=
 ⟨h.sc.set (Ne.symm hF) j v,h.res.set (by omega) j v,h.inn.set (Ne.symm hK) j v,h.blw.setCell (by show w.heap.size<=g;omega) v,h.hF,h.hK,h.ne⟩
theorem FdSt.setF(h:FdSt w wx F K BX s)(j:Nat)(v:Value):FdSt w (wx.setCell ⟨F,j,none⟩ v) F K (BX.setIfInBounds j v) s:=
 ⟨h.sc.put j v,h.res.set (by have:=h.hF;omega) j v,h.inn.set (Ne.symm h.ne) j v,h.blw.setCell (by show w.heap.size<=F;have:=h.hF;omega) v,h.hF,h.hK,h.ne⟩
end
def Zds(s:InS)(e a:Nat):(s.fail e a).t=s.t:=by unfold InS.fail;split<;>rfl
def Zo8(s:InS):s.short.t=s.t:=Zds _ _ _
def Zbx(s:InS)(k:Nat):(s.take k).2.t=s.t:=by
 unfold InS.take;split
 ·rfl
 ·split
  ·exact Zo8 s
  ·rfl
def Zps(s:InS)(k:Nat):(s.until k).2.t=s.t:=by
 unfold InS.until;split
 ·rfl
 ·split
  ·exact Zo8 s
  ·rfl
def ZpC(j:List UInt8->Except (Nat×Nat) (List UInt8×Nat))(l:Lt)(b:List UInt8×InS)(k:Nat):(ZaN j l b k).2.t=b.2.t:=by
 unfold ZaN;split
 ·rfl
 ·exact Zds _ _ _
def ZvK(q:Nat)(j:List UInt8->Except (Nat×Nat) (List UInt8×Nat))(s:InS)(l:Lt):(Z2 q j s l).2.t=s.t:=by
 cases l<;>first|exact Zbx _ _|exact Zps _ _|exact(ZpC _ _ _ _).trans (Zps _ _)|exact(ZpC _ _ _ _).trans (Zbx _ _)
def Zdy(acc:List Pt):Except (Nat×Nat) (List Pt×InS)->Except (Nat×Nat) (List Pt×InS)
 | .error x=>.error x
 | .ok q=>.ok (acc++q.1,q.2)
def ZvA(r:Except (Nat×Nat) (List Pt×InS)):Zdy [] r=r:=by cases r<;>rfl
def ZvB(a b:List Pt)(r:Except (Nat×Nat) (List Pt×InS)):Zdy a (Zdy b r)=Zdy (a++b) r:=by cases r<;>simp[Zdy]
def ZvM(q:Nat)(j:List UInt8->Except (Nat×Nat) (List UInt8×Nat))(ls:List Lt)(k:Nat)(u:k<ls.length)(s:InS):
 Za0 q j (ls.drop k) s=if(Z2 q j s ls[k]).2.e≠0 then .error ((Z2 q j s ls[k]).2.e,(Z2 q j s ls[k]).2.a) else Zdy [(Z2 q j s ls[k]).1] (Za0 q j (ls.drop (k+1)) (Z2 q j s ls[k]).2):=by
 rw[List.drop_eq_getElem_cons u,Za0];split
 ·rfl
 ·cases Za0 q j (ls.drop (k+1)) (Z2 q j s ls[k]).2<;>rfl
def Zeg(r:Except (Nat×Nat) (List Pt))(w0:World)(e:Ending)(w':World):Prop:=
 Below w0.heap.size w0 w'/\match r with
 | .ok ps=>∃v,e=.returned (.tuple #[v,.agg #[.int .i64 0,.int .i64 0]])/\Zk ptL w0.heap.size w' v ps
 | .error x=>e=.returned (.tuple #[.slice none 0 0,.agg #[.int .i64 (x.1:Nat),.int .i64 (x.2:Nat)]])
noncomputable def ZfE(j:Nat)(fb:Nat)(det:Bool)(ls:List Lt)(s:InS):Except (Nat×Nat) (List Pt):=match Za0 j (wdF fb det j) ls s with| .error x=>.error x| .ok q=>.ok q.1
def ZtS(v:Nat)(id body:List UInt8)(fb:Nat)(det:Bool)(h0:Zg v id≠[]):
 ZbE (wdF fb det) v id body=if((⟨body,0,0,0,0⟩:InS).big 1).2.e≠0 then .error (((⟨body,0,0,0,0⟩:InS).big 1).2.e,((⟨body,0,0,0,0⟩:InS).big 1).2.a) else
  if Zfj v ((⟨body,0,0,0,0⟩:InS).big 1).1=false then .error (1,0) else ZfE ((⟨body,0,0,0,0⟩:InS).big 1).1 fb det (Zg v id) ((⟨body,0,0,0,0⟩:InS).big 1).2:=by
 unfold ZbE ZfE;rw[if_neg h0];rfl
def ZlX(body:List UInt8):((⟨body,0,0,0,0⟩:InS).big 1).1<256/\((⟨body,0,0,0,0⟩:InS).big 1).2.t=body:=by
 refine⟨?_,Zbx _ _⟩;have h:=Zd8 (⟨body,0,0,0,0⟩:InS) 1;show InS.bigN ((⟨body,0,0,0,0⟩:InS).take (min 1 8)).1<256
 rw[show min 1 8=1 from rfl]
 match((⟨body,0,0,0,0⟩:InS).take 1).1,h with
 |[],_=>decide
 |[x],_=>
  have:=x.toNat_lt;simp only[InS.bigN,List.foldl];omega
def ZrB(t:List UInt8)(j:t.length<=1000000000)(w:World):
 Calls prog 17 #[.string (B t)] w λe w'=>∃K,e=.returned (.pointer (some ⟨K,0,none⟩))/\InAt w' K ⟨t,0,0,0,0⟩/\Below w.heap.size w w'/\w.heap.size<=K/\K<w'.heap.size:=
 (Zlh t j w).mono λ_ _ ⟨a,b,c,d⟩=>⟨_,a,b,c,Nat.le_refl _,by omega⟩
def Zj6{w:World}{g:Nat}{a b c d e f:Value}{T:TypeId}(h:Bx w g #[a,b,c,d,e,f] T):
 (w.cell? ⟨g,0,none⟩=some a/\w.cell? ⟨g,1,none⟩=some b/\w.cell? ⟨g,2,none⟩=some c/\w.cell? ⟨g,3,none⟩=some d/\w.cell? ⟨g,4,none⟩=some e/\w.cell? ⟨g,5,none⟩=some f)/\(∀j,w.frozen? ⟨g,j,none⟩=false)/\g<w.heap.size:=
 ⟨h.six,h.free,h.lt⟩
structure OSt (w wx:World)(OA:Array Value):Prop where
 op:Bx wx w.heap.size OA 25
 res:Bx wx (w.heap.size+1) #[.int .i64 0,.int .i64 0] 34
 blw:Below w.heap.size w wx
 sz:w.heap.size+2<=wx.heap.size
section
variable {w wx wy:World} {OA:Array Value}
theorem OSt.below(h:OSt w wx OA)(hb:Below wx.heap.size wx wy):OSt w wy OA:=⟨h.op.below hb,h.res.below hb,h.blw.trans (hb.mono h.blw.size),Nat.le_trans h.sz hb.size⟩
theorem OSt.alloc(h:OSt w wx OA)(o:Obj):OSt w (wx.alloc o) OA:=h.below ((Below.refl _ _).alloc (Nat.le_refl _) _)
theorem OSt.drew(h:OSt w wx OA):OSt w wx.drew OA:=h.below (below_drewN (Below.refl _ _) 1)
theorem OSt.set(h:OSt w wx OA){g:Nat}(q:w.heap.size+2<=g)(j:Nat)(v:Value):OSt w (wx.setCell ⟨g,j,none⟩ v) OA:=
 ⟨h.op.set (by omega) j v,h.res.set (by omega) j v,h.blw.setCell (by show w.heap.size<=g;omega) v,by simpa[World.setCell] using h.sz⟩
theorem OSt.mk0(w:World)(OA:Array Value):OSt w ((w.alloc (.cells OA 25)).alloc (.cells #[.int .i64 0,.int .i64 0] 34)) OA:=by
 have j:=Bx.new (w.alloc (.cells OA 25)) #[.int .i64 0,.int .i64 0] 34;rw[World.size_alloc] at j;exact⟨(Bx.new w OA 25).alloc _,j,((Below.refl _ w).alloc (Nat.le_refl _) _).alloc (by simp) _,by simp⟩
theorem OSt.four{a b c d:Value}(h:OSt w wx #[a,b,c,d]):wx.cell? ⟨w.heap.size,0,none⟩=some a/\wx.cell? ⟨w.heap.size,1,none⟩=some b/\wx.cell? ⟨w.heap.size,2,none⟩=some c/\wx.cell? ⟨w.heap.size,3,none⟩=some d:=⟨h.op.cell 0,h.op.cell 1,h.op.cell 2,h.op.cell 3⟩
theorem OSt.fst{F K:Nat}{BX:Array Value}{s:InS}(h:OSt w wx OA)(hF:Bx wx F BX 191)(q:InAt wx K s)(y:w.heap.size+2<=F)(u:w.heap.size+2<=K)(j:F≠K):FdSt w wx F K BX s:=⟨hF,h.res,q,h.blw,y,u,j⟩
end
def PlRel(w:World)(F K:Nat)(BX:Array Value)(u:Except (Nat×Nat) (List Pt×InS))(q:Nat)(j:List UInt8->Except (Nat×Nat) (List UInt8×Nat))(ls:List Lt)(body:List UInt8)(base:Nat)(vl i:Value)(wr:World):Prop:=
 ∃(k:Nat) (acc:List Pt) (s:InS),k<=ls.length/\i=.int .i64 k/\acc.length=k/\s.t=body/\s.e=0/\Hid (FdSt w wr F K BX s)/\Hid (wr.ownsRow base 182 4 vl acc.length (acc.flatMap ptL))/\base<=wr.heap.size/\(acc=[]->vl=.slice none 0 0)/\Hid (u=Zdy acc (Za0 q j (ls.drop k) s))
structure PcC (w wx:World)(F K G base:Nat)(BX:Array Value)(s:InS)(acc:List Pt)(vl:Value)(p:Pt):Prop where
 st:FdSt w wx F K BX s
 own:wx.ownsRow base 182 4 vl acc.length (acc.flatMap ptL)
 pt:Bx wx G (ptA p) 182
 hb:base<=wx.heap.size
def PcC.below{w wx wy:World}{F K G base:Nat}{BX:Array Value}{s:InS}{acc:List Pt}{vl:Value}{p:Pt}(h:PcC w wx F K G base BX s acc vl p)(hb:Below wx.heap.size wx wy):PcC w wy F K G base BX s acc vl p:=
 ⟨h.st.below hb,ZB h.own hb,h.pt.below hb,Nat.le_trans h.hb hb.size⟩
def PcC.alloc{w wx:World}{F K G base:Nat}{BX:Array Value}{s:InS}{acc:List Pt}{vl:Value}{p:Pt}(h:PcC w wx F K G base BX s acc vl p)(o:Obj):PcC w (wx.alloc o) F K G base BX s acc vl p:=h.below ((Below.refl _ _).alloc (Nat.le_refl _) _)
def FdSt.low{w wx wy:World}{F K B:Nat}{BX:Array Value}{s:InS}(h:FdSt w wx F K BX s)(hb:Below B wx wy)(hF:F<B)(hK:K<B)(j:w.heap.size+2<=B):FdSt w wy F K BX s:=
 ⟨(hb.block F hF).trans h.sc,(hb.block _ (by omega)).trans h.res,h.inn.same (hb.block K hK),h.blw.trans (hb.mono (by omega)),h.hF,h.hK,h.ne⟩
def FdSt.six{w wx:World}{F K:Nat}{a b c d e f:Value}{s:InS}(h:FdSt w wx F K #[a,b,c,d,e,f] s):wx.cell? ⟨F,0,none⟩=some a/\wx.cell? ⟨F,1,none⟩=some b/\wx.cell? ⟨F,2,none⟩=some c/\wx.cell? ⟨F,3,none⟩=some d/\wx.cell? ⟨F,4,none⟩=some e/\wx.cell? ⟨F,5,none⟩=some f:=h.sc.six
def Bx.four{w:World}{g:Nat}{a b c d:Value}{T:TypeId}(h:Bx w g #[a,b,c,d] T):(w.cell? ⟨g,0,none⟩=some a/\w.cell? ⟨g,1,none⟩=some b/\w.cell? ⟨g,2,none⟩=some c/\w.cell? ⟨g,3,none⟩=some d)/\(∀j,w.frozen? ⟨g,j,none⟩=false)/\g<w.heap.size:=⟨⟨h.cell 0,h.cell 1,h.cell 2,h.cell 3⟩,h.free,h.lt⟩
def ZdY{w:World}{base:Nat}{e:TypeId}{size:Nat}{v:Value}{n:Nat}{xs:List Value}(h:w.ownsRow base e size v n xs){g:Nat}(q:∀k,v.ownBlock=some k->k<g)(j:Nat)(u:Value):(w.setCell ⟨g,j,none⟩ u).ownsRow base e size v n xs:=
 h.kept (row:=some g) ⟨rfl,rfl,rfl,by simp[World.setCell],λk C y=>Zfv (by simpa using y) u⟩ (.inr λe=>by have:=q g e;omega)
def Zqd(v:Nat)(id body:List UInt8)(hid:id.length<=100000)(bI:body.length<=100000)(h0:Zg v id≠[])(kd J:Int)(fb:Nat)(det:Bool)
 (I:∀l,l∈Zg v id->∀(K:Nat) (s:InS),s.t.length<=100000->∀w:World,Grd w->InAt w K s->Calls prog 134 #[.agg (Zab K ((⟨body,0,0,0,0⟩:InS).big 1).1 kd J fb det),.int .u8 (ltB l).toNat] w (Zbk K (Z2 ((⟨body,0,0,0,0⟩:InS).big 1).1 (wdF fb det ((⟨body,0,0,0,0⟩:InS).big 1).1) s l) w)) (w:World) (hG:Grd w):
 Calls prog 79 #[.int .i64 v,.string (B id),.string (B body),.agg #[.int .i64 kd,.int .i64 fb,.bool det,.int .i64 J]] w (Zeg (ZbE (wdF fb det) v id body) w):=by
 have bE:=λw=>ZfF v id hid w;have ci:(B (Zn (Zg v id))).toList.isEmpty=false:=ZeX (by unfold Zn;intro h;exact h0 (List.map_eq_nil_iff.1 h));rw[ZtS v id body fb det h0];obtain⟨aI,aJ⟩:=ZlX body;have ab:(Zn (Zg v id)).length=(Zg v id).length:=by unfold Zn;simp
 generalize aZ:Zg v id=ls at*;obtain⟨C,N,a6⟩:∃C N,(⟨body,0,0,0,0⟩:InS).big 1=(C,N):=⟨_,_,rfl⟩
 have bD:=λw=>ZrB body (by omega) w;have aj:=λK w h=>Zdm K (⟨body,0,0,0,0⟩:InS) 1 (by decide) w h;rw[a6] at aI aJ aj I⊢;simp only at aI aJ I⊢;have bM:=QQ I;clear I;unfold Zh at aj;have cr:ls.length<=8:=by
  rw[<-aZ];unfold Zg;(repeat' split)<;>simp
 generalize hP:Zeg _ w=P at*;have G0:=QQ hG;clear a6 h0 aZ;go_enter func79,ntmps79
 go_upto_region 4 with(go_at_call 131;refine(bE _).mono ?_;rintro e w1 ⟨rfl,rfl⟩)
 go_cut [11] (λbw wx=>∃F K,bw=.pointer (some ⟨F,0,none⟩)/\FdSt w wx F K #[.pointer (some ⟨K,0,none⟩),.int .u8 0,.int .i64 kd,.int .i64 fb,.bool det,.int .i64 J] ⟨body,0,0,0,0⟩)
 case first=>
  have O0:=QQ (OSt.mk0 w #[.int .i64 kd,.int .i64 fb,.bool det,.int .i64 J]);generalize ((w.alloc (.cells #[.int .i64 kd,.int .i64 fb,.bool det,.int .i64 J] 25)).alloc (.cells #[.int .i64 0,.int .i64 0] 34))=W2 at*;have y:=O0.sz;go_region_held3 (λw'=>w'.cell? ⟨w.heap.size,0,none⟩=some (.int .i64 kd)/\w'.cell? ⟨w.heap.size,1,none⟩=some (.int .i64 (fb:Int))/\w'.cell? ⟨w.heap.size,2,none⟩=some (.bool det)/\w'.cell? ⟨w.heap.size,3,none⟩=some (.int .i64 J))
   (first|with_reducible exact O0.out.four|with_reducible exact O0.out.drew.four|with_reducible exact(O0.out.alloc _).four|with_reducible exact(O0.out.alloc _).drew.four|with_reducible exact(O0.out.drew.alloc _).four|with_reducible exact O1.out.four|with_reducible exact(O1.out.alloc _).four|with_reducible exact O1.out.drew.four|with_reducible exact((((((O1.out.set y _ _).set y _ _).set y _ _).set y _ _).set y _ _).set y _ _).four)
   (first|(go_at_call 17;refine(bD _).mono ?_;rintro e w1 ⟨K,rfl,h1,j,a5,ck⟩;have O1:=QQ (by first|with_reducible exact O0.out.below j|with_reducible exact O0.out.drew.below j|with_reducible exact(O0.out.alloc _).below j|with_reducible exact(O0.out.alloc _).drew.below j|with_reducible exact(O0.out.drew.alloc _).below j);first|(have Z:Bx w1 W2.heap.size #[.pointer none,.int .u8 0,.int .i64 0,.int .i64 0,.bool false,.int .i64 0] 191:=Bx.below (w:=(W2.alloc (.cells #[.pointer none,.int .u8 0,.int .i64 0,.int .i64 0,.bool false,.int .i64 0] 191))) (Bx.new W2 _ _) j;have ZH:=QQ Z;obtain⟨⟨x0,x1,x2,x3,x4,x5⟩,xf,xl⟩:=Zj6 Z;clear Z)|(have Z:Bx w1 W2.heap.size #[.pointer none,.int .u8 0,.int .i64 0,.int .i64 0,.bool false,.int .i64 0] 191:=Bx.below (w:=(W2.alloc (.cells #[.pointer none,.int .u8 0,.int .i64 0,.int .i64 0,.bool false,.int .i64 0] 191)).drew) (Bx.new W2 _ _) j;have ZH:=QQ Z;obtain⟨⟨x0,x1,x2,x3,x4,x5⟩,xf,xl⟩:=Zj6 Z;clear Z)|skip))
  ·go_wp2_with fail
   go_meet
   have cb:=O1.sz;have a4:w.heap.size+2<=K:=Nat.le_trans y a5;exact⟨_,K,rfl,(O1.alloc _).fst (Bx.new w1 _ _) (h1.alloc _) (by omega) a4 (by omega)⟩
  ·go_wp2_with fail
   go_meet
   have a4:W2.heap.size+1<=K:=by
    have a3:(W2.alloc (.cells #[.pointer none,.int .u8 0,.int .i64 0,.int .i64 0,.bool false,.int .i64 0] 191)).heap.size<=K:=a5;rw[World.size_alloc] at a3;exact a3
   exact⟨_,K,rfl,((((((O1.set y _ _).set y _ _).set y _ _).set y _ _).set y _ _).set y _ _).fst ((((((ZH.put 0 _).put 1 _).put 2 _).put 3 _).put 4 _).put 5 _) ((((((h1.set (by omega) 0 _).set (by omega) 1 _).set (by omega) 2 _).set (by omega) 3 _).set (by omega) 4 _).set (by omega) 5 _) y (by omega) (by omega)⟩
 case rest=>
  obtain⟨F,K,rfl,U⟩:=hcut;have S0:=QQ U;have a0:=U.sc.cell 0;have a1:=U.sc.cell 1;have f1:=U.sc.free 1;have bJ:=U.sc.lt;have cy:=U.hF;have cu:=U.hK;have cx:=U.ne;clear U;have aH:=λw h=>Zc0 K N w h;have az:=λw=>ZqW v C aI w;by_cases ai:N.e=0
  ·have D:Zeg (if Zfj v C=false then .error (1,0) else ZfE C fb det ls N) w=P:=by rw[<-hP,if_neg (show¬N.e≠0 by omega)]
   have ac:=λw=>ZG (N.e:Int) N.a (by omega) w;clear hP;cases hm:Zfj v C with
   |false=>
    rw[hm] at az D;rw[if_pos rfl] at D;have an:∀w',Below w.heap.size w w'->P (.returned (.tuple #[.slice none 0 0,.agg #[.int .i64 1,.int .i64 0]])) w':=by
     intro w' hb;rw[<-D];exact⟨hb,rfl⟩
    have HP:=QQ an;clear D an hm ai;go_wp2_with (first
     |(go_at_call 49;refine(aj K _ S0.inn).mono ?_;rintro e w1 ⟨rfl,h1,j⟩;have S1:=QQ (S0.butK h1 j);clear h1 j;have b1:=S1.sc.cell 1;have g1:=S1.sc.free 1;have b0:=S1.sc.cell 0;have S2:=QQ (S1.setF 1 (.int .u8 (C:Int))))
     |(go_at_call 21;refine MR (aH _ S2.inn) λw2 X=>?_;have S3:=QQ (S2.below X);clear X)
     |(go_at_call 8;refine MR (ac _) λw3 V=>?_;have W:=QQ ((S3.alloc _).below V);clear V;have d1:=W.sc.cell 1;have r0:=W.res.cell 0;have r1:=W.res.cell 1;have r2:=W.res.free 0;have r3:=W.res.free 1)
     |(go_at_call 133;refine(az _).mono ?_;rintro e w4 ⟨rfl,rfl⟩))
    refine bodyPost_ret (v:=.tuple #[.slice none 0 0,.agg #[.int .i64 1,.int .i64 0]]) (by simp[results,results79,go_sem,r0,r1]) rfl ?_;exact HP.out _ ((W.blw.setCell (Nat.le_succ _) _).setCell (Nat.le_succ _) _)
   |true=>
    rw[hm] at az D;rw[if_neg (by decide)] at D;have bc:=QQ D;have a7:=QQ ai;have bC:=Zj (Zn ls);rw[ab] at bC;clear D hm ai;go_wp2_with (first
     |(go_at_call 49;refine(aj K _ S0.inn).mono ?_;rintro e w1 ⟨rfl,h1,j⟩;have S1:=QQ (S0.butK h1 j);clear h1 j;have b1:=S1.sc.cell 1;have g1:=S1.sc.free 1;have b0:=S1.sc.cell 0;have S2:=QQ (S1.setF 1 (.int .u8 (C:Int))))
     |(go_at_call 21;refine MR (aH _ S2.inn) λw2 X=>?_;have S3:=QQ (S2.below X);clear X)
     |(go_at_call 8;refine MR (ac _) λw3 V=>?_;have W:=QQ ((S3.alloc _).below V);clear V;have d1:=W.sc.cell 1;have r0:=W.res.cell 0;have r1:=W.res.cell 1;have r2:=W.res.free 0;have r3:=W.res.free 1)
     |(go_at_call 133;refine(az _).mono ?_;rintro e w4 ⟨rfl,rfl⟩))
    have S5:Hid (FdSt w w3 F K #[.pointer (some ⟨K,0,none⟩),.int .u8 C,.int .i64 kd,.int .i64 fb,.bool det,.int .i64 J] N):=QQ W.out;clear a0 a1 f1 bJ d1 r0 r1 r2 r3;go_loopw [13,50] (λvl i wr=>PlRel w F K #[.pointer (some ⟨K,0,none⟩),.int .u8 C,.int .i64 kd,.int .i64 fb,.bool det,.int .i64 J] (Za0 C (wdF fb det C) ls N) C (wdF fb det C) ls body w3.heap.size vl i wr) (λ_ i _=>ls.length - (intOf i).toNat)
    case atStart=>exact⟨0,[],N,Nat.zero_le _,rfl,rfl,aJ,a7.out,S5,QQ ⟨rfl,.inl ⟨rfl,rfl⟩⟩,Nat.le_refl _,λ_=>rfl,QQ (by rw[List.drop_zero,ZvA])⟩
    case round=>
     obtain⟨k,acc,s,hk,rfl,aD,aB,cd,hS,hO,cp,aY,aL⟩:=hrel;have ce:=hS.blw.size;have aF:=QQ aD;clear aD;obtain⟨cj,A0,c0,bA,cn⟩:=ZaZ hO.out;subst bA;by_cases aA:k<ls.length
     ·have bG:=ZaV (Zn ls) k (by rw[ab];exact aA);have a2:(Zn ls)[k]'(by rw[ab];exact aA)=ltB ls[k]:=by simp[Zn]
      rw[a2] at bG;have ay:=bM.out ls[k] (List.getElem_mem _) K s (by rw[aB];exact bI);have O:=ZvM C (wdF fb det C) ls k aA s;have ht:=ZvK C (wdF fb det C) s ls[k];unfold Zbk Zh Zab ptA at ay;obtain⟨p,s',aV⟩:∃p s',Z2 C (wdF fb det C) s ls[k]=(p,s'):=⟨_,_,rfl⟩
      rw[aV] at ay O ht;simp only at ay O ht;have ap:=QQ O;have Gr:=QQ (G0.below hS.blw);have aX:∀q,(Value.slice A0 acc.length c0).ownBlock=some q->q<wr.heap.size:=λq hq=>(hO.lt q hq).2;have Y:=QQ aX;have bT:((k:Int)).toNat=k:=by omega
      have bF:k<(Zn ls).length:=by rw[ab];exact aA
      clear O aV a2 aX;generalize ltB ls[k]=ch at*;go_upto_region 15 with fail
      go_cut [15] (λbv wx=>∃G,bv=.pointer (some ⟨G,0,none⟩)/\PcC w wx F K G w3.heap.size #[.pointer (some ⟨K,0,none⟩),.int .u8 C,.int .i64 kd,.int .i64 fb,.bool det,.int .i64 J] s' acc (.slice A0 acc.length c0) p)
      case first=>
       have ct:=hS.inn.lt;have cw:=hS.sc.lt;have bP:Hid (Grd wr.drew):=QQ (Gr.below (below_drewN (Below.refl _ _) 1));have bf:Hid (Grd (wr.alloc (.cells #[.string ⟨#[]⟩,.bool false,.string ⟨#[]⟩,.int .i64 0] 182))):=QQ (Gr.alloc _);have be:Hid (Grd (wr.alloc (.cells #[.string ⟨#[]⟩,.bool false,.string ⟨#[]⟩,.int .i64 0] 182)).drew):=QQ (bf.below (below_drewN (Below.refl _ _) 1));have OD:Hid (wr.drew.ownsRow w3.heap.size 182 4 (.slice A0 acc.length c0) acc.length (acc.flatMap ptL)):=QQ hO.out;have OA:Hid ((wr.alloc (.cells #[.string ⟨#[]⟩,.bool false,.string ⟨#[]⟩,.int .i64 0] 182)).ownsRow w3.heap.size 182 4 (.slice A0 acc.length c0) acc.length (acc.flatMap ptL)):=QQ (hO.alloc _);have bK:Hid ((wr.alloc (.cells #[.string ⟨#[]⟩,.bool false,.string ⟨#[]⟩,.int .i64 0] 182)).drew.ownsRow w3.heap.size 182 4 (.slice A0 acc.length c0) acc.length (acc.flatMap ptL)):=QQ OA.out;have L:K<w3.heap.size:=S5.inn.lt;go_region_held3 (λw'=>w'.cell? ⟨F,0,none⟩=some (.pointer (some ⟨K,0,none⟩))/\w'.cell? ⟨F,1,none⟩=some (.int .u8 (C:Int))/\w'.cell? ⟨F,2,none⟩=some (.int .i64 kd)/\w'.cell? ⟨F,3,none⟩=some (.int .i64 (fb:Int))/\w'.cell? ⟨F,4,none⟩=some (.bool det)/\w'.cell? ⟨F,5,none⟩=some (.int .i64 J))
        (first|with_reducible exact hS.out.six|with_reducible exact hS.out.drew.six|with_reducible exact(hS.out.alloc _).six|with_reducible exact(hS.out.alloc _).drew.six|with_reducible exact(hS.out.drew.alloc _).six|with_reducible exact S6.out.six|with_reducible exact(S6.out.alloc _).six|with_reducible exact S6.out.drew.six|with_reducible exact((((S6.out.setO (g:=wr.heap.size) (by omega) (by omega) (by omega) 0 _).setO (g:=wr.heap.size) (by omega) (by omega) (by omega) 1 _).setO (g:=wr.heap.size) (by omega) (by omega) (by omega) 2 _).setO (g:=wr.heap.size) (by omega) (by omega) (by omega) 3 _).six)
        (first|(go_at_call 134;refine(ay _ (by first|with_reducible exact bP.out|with_reducible exact be.out|with_reducible exact Gr.out|with_reducible exact bf.out) (by first|with_reducible exact hS.out.drew.inn|with_reducible exact(hS.out.alloc _).drew.inn|with_reducible exact hS.out.inn|with_reducible exact(hS.out.alloc _).inn)).mono ?_;rintro e w6 ⟨rfl,h6,u⟩;have S6:=QQ (by first|with_reducible exact hS.out.drew.butK h6 u|with_reducible exact(hS.out.alloc _).drew.butK h6 u|with_reducible exact hS.out.butK h6 u|with_reducible exact(hS.out.alloc _).butK h6 u);have O6:=QQ (by first|with_reducible exact ZdX OD.out u L|with_reducible exact ZdX bK.out u L|with_reducible exact ZdX hO.out u L|with_reducible exact ZdX OA.out u L);have bz:=u.size;first|(have Z:Bx w6 wr.heap.size #[.string ⟨#[]⟩,.bool false,.string ⟨#[]⟩,.int .i64 0] 182:=Bx.but (w:=(wr.alloc (.cells #[.string ⟨#[]⟩,.bool false,.string ⟨#[]⟩,.int .i64 0] 182))) (Bx.new wr _ _) u (by omega);have ZH:=QQ Z;obtain⟨⟨x0,x1,x2,x3⟩,xf,xl⟩:=Z.four;clear Z)|(have Z:Bx w6 wr.heap.size #[.string ⟨#[]⟩,.bool false,.string ⟨#[]⟩,.int .i64 0] 182:=Bx.but (w:=(wr.alloc (.cells #[.string ⟨#[]⟩,.bool false,.string ⟨#[]⟩,.int .i64 0] 182)).drew) (Bx.new wr _ _) u (by omega);have ZH:=QQ Z;obtain⟨⟨x0,x1,x2,x3⟩,xf,xl⟩:=Z.four;clear Z)|skip))
       ·go_wp2_with fail
        go_meet
        exact⟨_,rfl,S6.alloc _,O6.alloc _,Bx.new w6 _ _,by have h9:wr.heap.size<=w6.heap.size:=bz;simp;omega⟩
       ·go_wp2_with fail
        go_meet
        exact⟨_,rfl,((((S6.setO (g:=wr.heap.size) (by omega) (by omega) (by omega) 0 _).setO (g:=wr.heap.size) (by omega) (by omega) (by omega) 1 _).setO (g:=wr.heap.size) (by omega) (by omega) (by omega) 2 _).setO (g:=wr.heap.size) (by omega) (by omega) (by omega) 3 _),ZdY (ZdY (ZdY (ZdY O6.out Y.out 0 _) Y.out 1 _) Y.out 2 _) Y.out 3 _,(((ZH.put 0 _).put 1 _).put 2 _).put 3 _,by simp[World.setCell];omega⟩
       ·go_wp2_with fail
        go_meet
        exact⟨_,rfl,((((S6.setO (g:=wr.heap.size) (by omega) (by omega) (by omega) 0 _).setO (g:=wr.heap.size) (by omega) (by omega) (by omega) 1 _).setO (g:=wr.heap.size) (by omega) (by omega) (by omega) 2 _).setO (g:=wr.heap.size) (by omega) (by omega) (by omega) 3 _),ZdY (ZdY (ZdY (ZdY O6.out Y.out 0 _) Y.out 1 _) Y.out 2 _) Y.out 3 _,(((ZH.put 0 _).put 1 _).put 2 _).put 3 _,by simp[World.setCell];omega⟩
      case rest=>
       obtain⟨G,rfl,I⟩:=hcut;have aC:=λw h=>Zc0 K s' w h;have co:=I.hb;have C0:=QQ I;have cB:=I.st.sc.cell 0;have cm:=I.st.blw.size;clear I;by_cases aa:s'.e=0
       ·have ak:=λw=>ZG (s'.e:Int) s'.a (by omega) w;have aW:Hid (Za0 C (wdF fb det C) ls N=Zdy (acc++[p]) (Za0 C (wdF fb det C) (ls.drop (k+1)) s')):=QQ (by rw[aL.out,ap.out,if_neg (by omega),ZvB]);have bB:=QQ (ht.trans aB);have aT:=QQ aa;have bU:=hS.hF;have a8:F<w3.heap.size:=S5.sc.lt;have L:K<w3.heap.size:=S5.inn.lt;have aK:acc.length<=16777216:=by have:=aF.out;omega
        clear aa ht;go_wp2_with (first
         |(go_at_call 21;refine MR (aC _ C0.st.inn) λw7 am=>?_;have C7:=QQ (C0.below am);clear am)
         |(go_at_call 8;refine MR (ak _) λw8 af=>?_;have C8:=QQ ((C7.alloc _).below af);clear af;obtain⟨⟨p0,p1,p2,p3⟩,pf,pl⟩:=C8.pt.four)
         |(at_builtin;refine app_pt rfl _ _ rfl w3.heap.size (.slice A0 acc.length c0) acc rfl w8 p _ rfl C8.own C8.hb aK rfl ?_;intro v6 w9 bO u bH))
        have S9:=QQ (C8.st.low u a8 L (by omega));have ca:=u.size;have cq:=C8.hb;clear u bH p0 p1 p2 p3 pf;go_roundw
        case rel=>exact⟨k+1,acc++[p],s',by omega,by go_num,by rw[List.length_append,aF.out];rfl,bB.out,aT.out,S9,bO,by omega,λh=>absurd h (by simp),aW⟩
        case measure=>simp[intOf];omega
       ·have ak:=λw=>ZV (s'.e:Int) s'.a (by omega) w;have an:∀w',Below w.heap.size w w'->P (.returned (.tuple #[.slice none 0 0,.agg #[.int .i64 (s'.e:Nat),.int .i64 (s'.a:Nat)]])) w':=by
         intro w' hb;rw[<-bc.out];unfold ZfE;rw[aL.out,ap.out,if_pos aa];exact⟨hb,rfl⟩
        have HP:=QQ an;clear an aa;go_wp2_with (first
         |(go_at_call 21;refine MR (aC _ C0.st.inn) λw7 am=>?_;have S7:=QQ (C0.st.below am);clear am)
         |(go_at_call 8;refine MR (ak _) λw8 af=>?_;have Z8:=QQ ((Bx.new w7 _ _).below af);have S8:=QQ ((S7.alloc _).below af);clear af;have z0:=Z8.cell 0;have z1:=Z8.cell 1;have r0:=S8.res.cell 0;have r1:=S8.res.cell 1;have r2:=S8.res.free 0;have r3:=S8.res.free 1))
        go_region
        go_wp2_with fail
        refine bodyPost_ret (v:=.tuple #[.slice none 0 0,.agg #[.int .i64 (s'.e:Nat),.int .i64 (s'.a:Nat)]]) (by simp[results,results79,go_sem,r0,r1]) rfl ?_;exact HP.out _ (((S8.blw.setCell (Nat.le_succ _) _).setCell (Nat.le_succ _) _).drew)
     ·have hfin:Hid (Za0 C (wdF fb det C) ls N=.ok (acc,s)):=QQ (by rw[aL.out,show ls.drop k=[] from List.drop_of_length_le (by omega)];simp[Za0,Zdy]);have r0:=hS.res.cell 0;have r1:=hS.res.cell 1;have r2:=hS.res.free 0;have r3:=hS.res.free 1;have cc:=S5.sc.lt;have cv:=S5.hF;have aU:Hid (Zk ptL w3.heap.size wr (.slice A0 acc.length c0) acc):=QQ (Zk.of_own rfl hO.out aY);have bb:∀w',Below w.heap.size w w'->Zk ptL w.heap.size w' (.slice A0 acc.length c0) acc->P (.returned (.tuple #[.slice A0 acc.length c0,.agg #[.int .i64 0,.int .i64 0]])) w':=by
       intro w' h1 h2;rw[<-bc.out];unfold ZfE;rw[hfin.out];exact⟨h1,_,rfl,h2⟩
      have bN:=QQ bb;clear bb;go_wp2_with fail
      refine bodyPost_ret (v:=.tuple #[.slice A0 acc.length c0,.agg #[.int .i64 0,.int .i64 0]]) (by simp[results,results79,go_sem,r0,r1]) rfl ?_;exact bN.out _ ((hS.blw.setCell (Nat.le_succ _) _).setCell (Nat.le_succ _) _) ((Zk.set (Zk.set aU.out (by omega) 0 _) (by omega) 1 _).low (by omega))
  ·have D:∀w',Below w.heap.size w w'->P (.returned (.tuple #[.slice none 0 0,.agg #[.int .i64 (N.e:Nat),.int .i64 (N.a:Nat)]])) w':=by
    intro w' hb;rw[<-hP,if_pos ai];exact⟨hb,rfl⟩
   have HP:=QQ D;have ac:=λw=>ZV (N.e:Int) N.a (by omega) w;clear hP D ai;go_wp2_with (first
    |(go_at_call 49;refine(aj K _ S0.inn).mono ?_;rintro e w1 ⟨rfl,h1,j⟩;have S1:=QQ (S0.butK h1 j);clear h1 j;have b1:=S1.sc.cell 1;have g1:=S1.sc.free 1;have b0:=S1.sc.cell 0;have S2:=QQ (S1.setF 1 (.int .u8 (C:Int))))
    |(go_at_call 21;refine MR (aH _ S2.inn) λw2 X=>?_;have S3:=QQ (S2.below X);clear X)
    |(go_at_call 8;refine MR (ac _) λw3 V=>?_;have Z3:=QQ ((Bx.new w2 _ _).below V);have W:=QQ ((S3.alloc _).below V);clear V;have z0:=Z3.cell 0;have z1:=Z3.cell 1;have r0:=W.res.cell 0;have r1:=W.res.cell 1;have r2:=W.res.free 0;have r3:=W.res.free 1))
   go_region
   go_wp2_with fail
   refine bodyPost_ret (v:=.tuple #[.slice none 0 0,.agg #[.int .i64 (N.e:Nat),.int .i64 (N.a:Nat)]]) (by simp[results,results79,go_sem,r0,r1]) rfl ?_;exact HP.out _ (((W.blw.setCell (Nat.le_succ _) _).setCell (Nat.le_succ _) _).drew)
def Zqc(v:Nat)(id body:List UInt8)(hid:id.length<=100000)(y:body.length<=100000)(h0:Zg v id≠[])(q j:Int)(fb:Nat)(u:fb<=9)(det:Bool)(w:World)(hG:Grd w):
 Calls prog 79 #[.int .i64 v,.string (B id),.string (B body),.agg #[.int .i64 q,.int .i64 fb,.bool det,.int .i64 j]] w (Zeg (ZbE (wdF fb det) v id body) w):=
 Zqd v id body hid y h0 q j fb det (λl _ K s C w hG h=>Zrj l K s _ (by have:=(ZlX body).1;omega) q j fb det u C w hG h) w hG
structure Pi where
 nm:ByteArray
 raw:Bool
 text:List UInt8
 set:Int
def piL(p:Pi):List Value:=[.string p.nm,.bool p.raw,.string (B p.text),.int .i64 p.set]
def piA(p:Pi):Array Value:=#[.string p.nm,.bool p.raw,.string (B p.text),.int .i64 p.set]
def Zfm(p:Pt):Pi:=⟨B (ltN p.l),p.raw,p.text,(p.set:Nat)⟩
def Zv4(l:List Pt):l.flatMap ptL=(l.map Zfm).flatMap piL:=by rw[List.flatMap_map];rfl
def Zao:Lt->Bool
 | .desc=>true
 | .text=>true
 |_=>false
def ZeN(t:List UInt8):Bool:=decide (0<=Lib.indexByte t 0)
def Zp(l:Lt)(p:Pi):Nat:=if p.raw=Zao l then 5 else match l with
 | .lang=>if p.text.length=3 then 0 else 5
 | .fmt=>if p.text.length=3 then 0 else 5
 | .kind=>if p.text.length=1 then 0 else 5
 | .mime=>if ZeN p.text then 5 else 0
 | .desc=>if ZeN p.text then 5 else if Zcr p.text then 0 else 2
 | .text=>if Zcr p.text then 0 else 2
 | .data=>0
def Zak(t:List UInt8)(w:World):Calls prog 60 #[.string (B t),.int .u8 0] w λe w'=>e=.returned (.int .i64 (Lib.indexByte t 0))/\w=w':=by
 refine(strings_IndexByte _ _ w).mono ?_;rintro e w' ⟨rfl,rfl⟩;refine⟨ZaH ?_,rfl⟩;rw[Z9];rfl
def Zqq(p:Pi)(C:p.text.length<=100000)(w:World)(hG:Grd w):Calls prog 245 #[.int .u8 (ltB .lang).toNat,.agg (piA p)] w λe w'=>e=.returned (.int .i64 ((Zp .lang p:Nat):Int))/\Below w.heap.size w w':=by
 obtain⟨nm,raw,t,st⟩:=p;simp only at C;have D:=Zj t;have j:=λw (hG:Grd w)=>ZdJ t C w hG.tabs;unfold piA ltB;simp only;cases raw with
 |false=>
  rw[show Zp _ _=5 from by unfold Zp;simp[Zao]];go_enter func245,ntmps245
  go_wp2_with (first|(go_at_call 60;refine(Zak _ _).mono ?_;rintro e y ⟨rfl,rfl⟩)|(go_at_call 100;refine MR (j _ (hG.alloc _)) λu q=>?_))
  go_ret
  exact⟨rfl,(Below.refl _ _).alloc (Nat.le_refl _) _⟩
 |true=>
  by_cases h:t.length=3
  ·have J:((t.length:Int)==3)=true:=by simp;omega
   have I:((t.length:Int) !=3)=false:=by simp;omega
   rw[show Zp _ _=0 from by unfold Zp;simp[Zao,h]];go_enter func245,ntmps245
   go_wp2_with (first|(go_at_call 60;refine(Zak _ _).mono ?_;rintro e y ⟨rfl,rfl⟩)|(go_at_call 100;refine MR (j _ (hG.alloc _)) λu q=>?_))
   go_ret
   exact⟨rfl,(Below.refl _ _).alloc (Nat.le_refl _) _⟩
  ·have J:((t.length:Int)==3)=false:=by simp;omega
   have I:((t.length:Int) !=3)=true:=by simp;omega
   rw[show Zp _ _=5 from by unfold Zp;simp[Zao,h]];go_enter func245,ntmps245
   go_wp2_with (first|(go_at_call 60;refine(Zak _ _).mono ?_;rintro e y ⟨rfl,rfl⟩)|(go_at_call 100;refine MR (j _ (hG.alloc _)) λu q=>?_))
   go_ret
   exact⟨rfl,(Below.refl _ _).alloc (Nat.le_refl _) _⟩
def Zqo(p:Pi)(C:p.text.length<=100000)(w:World)(hG:Grd w):Calls prog 245 #[.int .u8 (ltB .fmt).toNat,.agg (piA p)] w λe w'=>e=.returned (.int .i64 ((Zp .fmt p:Nat):Int))/\Below w.heap.size w w':=by
 obtain⟨nm,raw,t,st⟩:=p;simp only at C;have D:=Zj t;have j:=λw (hG:Grd w)=>ZdJ t C w hG.tabs;unfold piA ltB;simp only;cases raw with
 |false=>
  rw[show Zp _ _=5 from by unfold Zp;simp[Zao]];go_enter func245,ntmps245
  go_wp2_with (first|(go_at_call 60;refine(Zak _ _).mono ?_;rintro e y ⟨rfl,rfl⟩)|(go_at_call 100;refine MR (j _ (hG.alloc _)) λu q=>?_))
  go_ret
  exact⟨rfl,(Below.refl _ _).alloc (Nat.le_refl _) _⟩
 |true=>
  by_cases h:t.length=3
  ·have J:((t.length:Int)==3)=true:=by simp;omega
   have I:((t.length:Int) !=3)=false:=by simp;omega
   rw[show Zp _ _=0 from by unfold Zp;simp[Zao,h]];go_enter func245,ntmps245
   go_wp2_with (first|(go_at_call 60;refine(Zak _ _).mono ?_;rintro e y ⟨rfl,rfl⟩)|(go_at_call 100;refine MR (j _ (hG.alloc _)) λu q=>?_))
   go_ret
   exact⟨rfl,(Below.refl _ _).alloc (Nat.le_refl _) _⟩
  ·have J:((t.length:Int)==3)=false:=by simp;omega
   have I:((t.length:Int) !=3)=true:=by simp;omega
   rw[show Zp _ _=5 from by unfold Zp;simp[Zao,h]];go_enter func245,ntmps245
   go_wp2_with (first|(go_at_call 60;refine(Zak _ _).mono ?_;rintro e y ⟨rfl,rfl⟩)|(go_at_call 100;refine MR (j _ (hG.alloc _)) λu q=>?_))
   go_ret
   exact⟨rfl,(Below.refl _ _).alloc (Nat.le_refl _) _⟩
def Zqr(p:Pi)(C:p.text.length<=100000)(w:World)(hG:Grd w):Calls prog 245 #[.int .u8 (ltB .mime).toNat,.agg (piA p)] w λe w'=>e=.returned (.int .i64 ((Zp .mime p:Nat):Int))/\Below w.heap.size w w':=by
 obtain⟨nm,raw,t,st⟩:=p;simp only at C;have D:=Zj t;have j:=λw (hG:Grd w)=>ZdJ t C w hG.tabs;unfold piA ltB;simp only;cases raw with
 |false=>
  rw[show Zp _ _=5 from by unfold Zp;simp[Zao]];go_enter func245,ntmps245
  go_wp2_with (first|(go_at_call 60;refine(Zak _ _).mono ?_;rintro e y ⟨rfl,rfl⟩)|(go_at_call 100;refine MR (j _ (hG.alloc _)) λu q=>?_))
  go_ret
  exact⟨rfl,(Below.refl _ _).alloc (Nat.le_refl _) _⟩
 |true=>
  by_cases h:0<=Lib.indexByte t 0
  ·rw[show Zp _ _=5 from by unfold Zp;simp[Zao,ZeN,h]];go_enter func245,ntmps245
   go_wp2_with (first|(go_at_call 60;refine(Zak _ _).mono ?_;rintro e y ⟨rfl,rfl⟩)|(go_at_call 100;refine MR (j _ (hG.alloc _)) λu q=>?_))
   go_ret
   exact⟨rfl,(Below.refl _ _).alloc (Nat.le_refl _) _⟩
  ·rw[show Zp _ _=0 from by unfold Zp;simp[Zao,ZeN,h]];go_enter func245,ntmps245
   go_wp2_with (first|(go_at_call 60;refine(Zak _ _).mono ?_;rintro e y ⟨rfl,rfl⟩)|(go_at_call 100;refine MR (j _ (hG.alloc _)) λu q=>?_))
   go_ret
   exact⟨rfl,(Below.refl _ _).alloc (Nat.le_refl _) _⟩
def Zqp(p:Pi)(C:p.text.length<=100000)(w:World)(hG:Grd w):Calls prog 245 #[.int .u8 (ltB .kind).toNat,.agg (piA p)] w λe w'=>e=.returned (.int .i64 ((Zp .kind p:Nat):Int))/\Below w.heap.size w w':=by
 obtain⟨nm,raw,t,st⟩:=p;simp only at C;have D:=Zj t;have j:=λw (hG:Grd w)=>ZdJ t C w hG.tabs;unfold piA ltB;simp only;cases raw with
 |false=>
  rw[show Zp _ _=5 from by unfold Zp;simp[Zao]];go_enter func245,ntmps245
  go_wp2_with (first|(go_at_call 60;refine(Zak _ _).mono ?_;rintro e y ⟨rfl,rfl⟩)|(go_at_call 100;refine MR (j _ (hG.alloc _)) λu q=>?_))
  go_ret
  exact⟨rfl,(Below.refl _ _).alloc (Nat.le_refl _) _⟩
 |true=>
  by_cases h:t.length=1
  ·have J:((t.length:Int)==1)=true:=by simp;omega
   have I:((t.length:Int) !=1)=false:=by simp;omega
   rw[show Zp _ _=0 from by unfold Zp;simp[Zao,h]];go_enter func245,ntmps245
   go_wp2_with (first|(go_at_call 60;refine(Zak _ _).mono ?_;rintro e y ⟨rfl,rfl⟩)|(go_at_call 100;refine MR (j _ (hG.alloc _)) λu q=>?_))
   go_ret
   exact⟨rfl,(Below.refl _ _).alloc (Nat.le_refl _) _⟩
  ·have J:((t.length:Int)==1)=false:=by simp;omega
   have I:((t.length:Int) !=1)=true:=by simp;omega
   rw[show Zp _ _=5 from by unfold Zp;simp[Zao,h]];go_enter func245,ntmps245
   go_wp2_with (first|(go_at_call 60;refine(Zak _ _).mono ?_;rintro e y ⟨rfl,rfl⟩)|(go_at_call 100;refine MR (j _ (hG.alloc _)) λu q=>?_))
   go_ret
   exact⟨rfl,(Below.refl _ _).alloc (Nat.le_refl _) _⟩
def Zqn(p:Pi)(D:p.text.length<=100000)(w:World)(hG:Grd w):Calls prog 245 #[.int .u8 (ltB .desc).toNat,.agg (piA p)] w λe w'=>e=.returned (.int .i64 ((Zp .desc p:Nat):Int))/\Below w.heap.size w w':=by
 obtain⟨nm,raw,t,st⟩:=p;simp only at D;have I:=Zj t;have j:=λw (hG:Grd w)=>ZdJ t D w hG.tabs;unfold piA ltB;simp only;cases raw with
 |false=>
  by_cases h:0<=Lib.indexByte t 0
  ·rw[show Zp _ _=5 from by unfold Zp;simp[Zao,ZeN,h]];go_enter func245,ntmps245
   go_wp2_with (first|(go_at_call 60;refine(Zak _ _).mono ?_;rintro e C ⟨rfl,rfl⟩)|(go_at_call 100;refine MR (j _ (hG.alloc _)) λy q=>?_))
   go_ret
   exact⟨rfl,(Below.refl _ _).alloc (Nat.le_refl _) _⟩
  ·cases u:Zcr t with
   |false=>
    rw[u] at j;rw[show Zp _ _=2 from by unfold Zp;simp[Zao,ZeN,h,u]];go_enter func245,ntmps245
    go_wp2_with (first|(go_at_call 60;refine(Zak _ _).mono ?_;rintro e C ⟨rfl,rfl⟩)|(go_at_call 100;refine MR (j _ (hG.alloc _)) λy q=>?_))
    go_ret
    exact⟨rfl,Ze q⟩
   |true=>
    rw[u] at j;rw[show Zp _ _=0 from by unfold Zp;simp[Zao,ZeN,h,u]];go_enter func245,ntmps245
    go_wp2_with (first|(go_at_call 60;refine(Zak _ _).mono ?_;rintro e C ⟨rfl,rfl⟩)|(go_at_call 100;refine MR (j _ (hG.alloc _)) λy q=>?_))
    go_ret
    exact⟨rfl,Ze q⟩
 |true=>
  rw[show Zp _ _=5 from by unfold Zp;simp[Zao]];go_enter func245,ntmps245
  go_wp2_with (first|(go_at_call 60;refine(Zak _ _).mono ?_;rintro e C ⟨rfl,rfl⟩)|(go_at_call 100;refine MR (j _ (hG.alloc _)) λy q=>?_))
  go_ret
  exact⟨rfl,(Below.refl _ _).alloc (Nat.le_refl _) _⟩
def Zqs(p:Pi)(D:p.text.length<=100000)(w:World)(hG:Grd w):Calls prog 245 #[.int .u8 (ltB .text).toNat,.agg (piA p)] w λe w'=>e=.returned (.int .i64 ((Zp .text p:Nat):Int))/\Below w.heap.size w w':=by
 obtain⟨nm,raw,t,st⟩:=p;simp only at D;have I:=Zj t;have j:=λw (hG:Grd w)=>ZdJ t D w hG.tabs;unfold piA ltB;simp only;cases raw with
 |false=>
  cases u:Zcr t with
  |false=>
   rw[u] at j;rw[show Zp _ _=2 from by unfold Zp;simp[Zao,u]];go_enter func245,ntmps245
   go_wp2_with (first|(go_at_call 60;refine(Zak _ _).mono ?_;rintro e C ⟨rfl,rfl⟩)|(go_at_call 100;refine MR (j _ (hG.alloc _)) λy q=>?_))
   go_ret
   exact⟨rfl,Ze q⟩
  |true=>
   rw[u] at j;rw[show Zp _ _=0 from by unfold Zp;simp[Zao,u]];go_enter func245,ntmps245
   go_wp2_with (first|(go_at_call 60;refine(Zak _ _).mono ?_;rintro e C ⟨rfl,rfl⟩)|(go_at_call 100;refine MR (j _ (hG.alloc _)) λy q=>?_))
   go_ret
   exact⟨rfl,Ze q⟩
 |true=>
  rw[show Zp _ _=5 from by unfold Zp;simp[Zao]];go_enter func245,ntmps245
  go_wp2_with (first|(go_at_call 60;refine(Zak _ _).mono ?_;rintro e C ⟨rfl,rfl⟩)|(go_at_call 100;refine MR (j _ (hG.alloc _)) λy q=>?_))
  go_ret
  exact⟨rfl,(Below.refl _ _).alloc (Nat.le_refl _) _⟩
def Zqm(p:Pi)(u:p.text.length<=100000)(w:World)(hG:Grd w):Calls prog 245 #[.int .u8 (ltB .data).toNat,.agg (piA p)] w λe w'=>e=.returned (.int .i64 ((Zp .data p:Nat):Int))/\Below w.heap.size w w':=by
 obtain⟨nm,raw,t,st⟩:=p;simp only at u;have D:=Zj t;have j:=λw (hG:Grd w)=>ZdJ t u w hG.tabs;unfold piA ltB;simp only;cases raw with
 |false=>
  rw[show Zp _ _=5 from by unfold Zp;simp[Zao]];go_enter func245,ntmps245
  go_wp2_with (first|(go_at_call 60;refine(Zak _ _).mono ?_;rintro e C ⟨rfl,rfl⟩)|(go_at_call 100;refine MR (j _ (hG.alloc _)) λy q=>?_))
  go_ret
  exact⟨rfl,(Below.refl _ _).alloc (Nat.le_refl _) _⟩
 |true=>
  rw[show Zp _ _=0 from by unfold Zp;simp[Zao]];go_enter func245,ntmps245
  go_wp2_with (first|(go_at_call 60;refine(Zak _ _).mono ?_;rintro e C ⟨rfl,rfl⟩)|(go_at_call 100;refine MR (j _ (hG.alloc _)) λy q=>?_))
  go_ret
  exact⟨rfl,(Below.refl _ _).alloc (Nat.le_refl _) _⟩
def Zqt(l:Lt)(p:Pi)(j:p.text.length<=100000)(w:World)(hG:Grd w):Calls prog 245 #[.int .u8 (ltB l).toNat,.agg (piA p)] w λe w'=>e=.returned (.int .i64 ((Zp l p:Nat):Int))/\Below w.heap.size w w':=by
 cases l
 ·exact Zqq p j w hG
 ·exact Zqo p j w hG
 ·exact Zqr p j w hG
 ·exact Zqp p j w hG
 ·exact Zqn p j w hG
 ·exact Zqs p j w hG
 ·exact Zqm p j w hG
def RdN{α:Type}(m:Nat)(f:α->List Value)(w:World)(B:Nat)(A:Option Addr)(l:List α):Prop:=Reads w B m A l.length (l.flatMap f)
section
variable {α:Type} {m:Nat} {f:α->List Value} {w w':World} {B0 B1:Nat} {A:Option Addr} {l:List α}
theorem RdN.below(h:RdN m f w B0 A l)(hb:Below B0 w w'):RdN m f w' B0 A l:=Reads.below h hb
theorem RdN.more(h:RdN m f w B0 A l)(hb:B0<=B1):RdN m f w B1 A l:=Reads.more h hb
theorem RdN.at_(J:∀x,(f x).length=m)(h:RdN m f w B0 A l){k:Nat}{x:α}(y:l[k]?=some x):
 ∃q,A=some q/\q.block<B0/\∀j u,j<m->(f x)[j]?=some u->w.cell? (q.add (k*m+j))=some u:=by
 have D:k<l.length:=(List.getElem?_eq_some_iff.1 y).1;obtain⟨q,N,hb,L⟩:=h.2 (by omega);exact⟨q,N,hb,λj u I C=>L _ _ ((Zf3 m f J l k j x y I).trans C)⟩
theorem RdN.of_rows(D:∀x,(f x).length=m){v:Value}(h:Zk f B0 w v l):∃A c,v=.slice A l.length c/\RdN m f w w.heap.size A l:=by
 rcases h with⟨rfl,rfl⟩|⟨y,c,h0,rfl,N,L,J,I⟩
 ·exact⟨none,0,rfl,Reads.none_⟩
 ·refine⟨_,c,rfl,flatN m f D l,λ_=>⟨_,rfl,J,λj u C=>?_⟩⟩;have q:(⟨y,0,none⟩:Addr).add j=⟨y,j,none⟩:=by unfold Addr.add;split<;>simp_all
  rw[q];exact I j u C
end
def ckL:List Lt->List Pi->Nat->Nat×Nat
 |[],[],_=>(0,0)
 |[],_::_,i=>(5,i)
 |_::_,[],i=>(5,i)
 |l::ls,p::ps,i=>if Zp l p≠0 then(Zp l p,i) else ckL ls ps (i+1)
def Zes(ls:List Lt):List Lt:=if ls=[] then [.data] else ls
def ZaT(v:Nat)(id:List UInt8)(ps:List Pi):Nat×Nat:=ckL (Zes (Zg v id)) ps 0
def Zs4(ls:List Lt)(ps:List Pi)(k:Nat)(h:k<ls.length)(j:ps.length<=k):ckL (ls.drop k) (ps.drop k) k=(5,k):=by
 rw[List.drop_eq_getElem_cons h,List.drop_of_length_le j];rfl
def Zs5(ls:List Lt)(ps:List Pi)(k:Nat)(h:k<ls.length)(j:k<ps.length):ckL (ls.drop k) (ps.drop k) k=if Zp ls[k] ps[k]≠0 then(Zp ls[k] ps[k],k) else ckL (ls.drop (k+1)) (ps.drop (k+1)) (k+1):=by
 rw[List.drop_eq_getElem_cons h,List.drop_eq_getElem_cons j,ckL]
def Zs3(ls:List Lt)(ps:List Pi)(k:Nat)(h:ls.length<=k):ckL (ls.drop k) (ps.drop k) k=if k<ps.length then(5,k) else(0,0):=by
 rw[List.drop_of_length_le h];by_cases j:k<ps.length
 ·rw[if_pos j,List.drop_eq_getElem_cons j];rfl
 ·rw[if_neg j,List.drop_of_length_le (by omega)];rfl
def ZjK(p:Pi):(piL p).length=4:=rfl
def Zk.at4{w:World}{y:Nat}{l:List Pi}(h:∀j u,(l.flatMap piL)[j]?=some u->w.cell? ⟨y,j,none⟩=some u){k:Nat}{p:Pi}(C:l[k]?=some p):
 w.cell? ⟨y,k*4,none⟩=some (.string p.nm)/\w.cell? ⟨y,k*4+1,none⟩=some (.bool p.raw)/\w.cell? ⟨y,k*4+2,none⟩=some (.string (B p.text))/\w.cell? ⟨y,k*4+3,none⟩=some (.int .i64 p.set):=by
 have q:∀j,j<4->(l.flatMap piL)[k*4+j]?=(piL p)[j]?:=λj D=>Zf3 4 piL ZjK l k j p C D;exact⟨h _ _ (q 0 (by decide)),h _ _ (q 1 (by decide)),h _ _ (q 2 (by decide)),h _ _ (q 3 (by decide))⟩
structure CfSt (w wx:World):Prop where
 res:Bx wx w.heap.size #[.int .i64 0,.int .i64 0] 34
 blw:Below w.heap.size w wx
section
variable {w wx wy:World}
theorem CfSt.below(h:CfSt w wx)(hb:Below wx.heap.size wx wy):CfSt w wy:=⟨h.res.below hb,h.blw.trans (hb.mono h.blw.size)⟩
theorem CfSt.mk0(w:World):CfSt w (w.alloc (.cells #[.int .i64 0,.int .i64 0] 34)):=⟨Bx.new w _ _,(Below.refl _ _).alloc (Nat.le_refl _) _⟩
theorem CfSt.fin(h:CfSt w wx)(x y:Value):Bx ((wx.setCell ⟨w.heap.size,0,none⟩ x).setCell ⟨w.heap.size,1,none⟩ y) w.heap.size #[x,y] 34/\Below w.heap.size w ((wx.setCell ⟨w.heap.size,0,none⟩ x).setCell ⟨w.heap.size,1,none⟩ y):=
 ⟨Zal h.res x y,(h.blw.setCell (p:=⟨w.heap.size,0,none⟩) (Nat.le_refl _) x).setCell (p:=⟨w.heap.size,1,none⟩) (Nat.le_refl _) y⟩
end
def Pc4(w:World)(j:Addr)(k:Nat)(p:Pi):Prop:=w.cell? (j.add (k*4))=some (.string p.nm)/\w.cell? ⟨(j.add (k*4)).block,(j.add (k*4)).off+1,none⟩=some (.bool p.raw)/\w.cell? ⟨(j.add (k*4)).block,(j.add (k*4)).off+2,none⟩=some (.string (B p.text))/\w.cell? ⟨(j.add (k*4)).block,(j.add (k*4)).off+3,none⟩=some (.int .i64 p.set)
def Pc4.below{w w':World}{j:Addr}{k:Nat}{p:Pi}(h:Pc4 w j k p)(u:j.block<w.heap.size)(hb:Below w.heap.size w w'):Pc4 w' j k p:=by
 obtain⟨a,b,c,d⟩:=h;have q:(j.add (k*4)).block<w.heap.size:=by rw[Zbm];exact u
 exact⟨(hb.cell (p:=j.add (k*4)) q).trans a,(hb.cell (p:=⟨(j.add (k*4)).block,(j.add (k*4)).off+1,none⟩) q).trans b,(hb.cell (p:=⟨(j.add (k*4)).block,(j.add (k*4)).off+2,none⟩) q).trans c,(hb.cell (p:=⟨(j.add (k*4)).block,(j.add (k*4)).off+3,none⟩) q).trans d⟩
def RdN.pc4{w:World}{B0:Nat}{A:Option Addr}{l:List Pi}(h:RdN 4 piL w B0 A l){k:Nat}{p:Pi}(D:l[k]?=some p):∃j,A=some j/\j.block<B0/\Pc4 w j k p:=by
 obtain⟨j,I,hb,q⟩:=h.at_ ZjK D;have g0:=q 0 _ (by omega) rfl;have C:=q 1 _ (by omega) rfl;have y:=q 2 _ (by omega) rfl;have u:=q 3 _ (by omega) rfl;rw[Nat.add_zero] at g0;rw[Zg0 _ _ _ (by omega)] at C y u;exact⟨j,I,hb,g0,C,y,u⟩
def CfRel(w:World)(ls:List Lt)(ps:List Pi)(i:Value)(wx:World):Prop:=∃k:Nat,k<=ls.length/\i=.int .i64 k/\Hid (CfSt w wx)/\Hid (ckL ls ps 0=ckL (ls.drop k) (ps.drop k) k)
def ZkX(v:Nat)(id:List UInt8)(hid:id.length<=100000)(A:Option Addr)(c:Nat)(ps:List Pi)(w:World)(hr:RdN 4 piL w w.heap.size A ps)(hn:ps.length<=100000)(ae:∀p∈ps,p.text.length<=100000)(hG:Grd w):
 Calls prog 175 #[.int .i64 v,.string (B id),.slice A ps.length c] w (ZgI w (ZaT v id ps)):=by
 have ah:=λw=>ZfF v id hid w;have C:Zn (Zes (Zg v id))=if Zg v id=[] then [114] else Zn (Zg v id):=by unfold Zes;split<;>rfl
 unfold ZaT;obtain⟨ls,X⟩:∃ls,ls=Zes (Zg v id):=⟨_,rfl⟩
 rw[<-X] at C⊢;generalize hP:ZgI w (ckL ls ps 0)=P at*;have HP:Hid (∀x y w',ckL ls ps 0=(x,y)->Below w.heap.size w w'->P (.returned (.agg #[.int .i64 (x:Nat),.int .i64 (y:Nat)])) w'):=QQ (by
  intro x y w' h1 h2;rw[<-hP,h1];exact⟨rfl,h2⟩)
 have D:(Zn ls).length=ls.length:=by unfold Zn;simp
 have aR:ls.length<=8:=by
  rw[X];unfold Zes Zg;(repeat' split)<;>simp
 have au:=Zj (Zn ls);rw[D] at au;have ak:=QQ hr;have G0:=QQ hG;have aC:=QQ ae;clear hr hP hG ae;go_enter func175,ntmps175
 go_upto_if 14 with(go_at_call 131;refine(ah _).mono ?_;rintro e w1 ⟨rfl,rfl⟩)
 go_cut [7] (λs7 wx=>s7=.string (B (Zn ls))/\wx=(w.alloc (.cells #[.int .i64 0,.int .i64 0] 34)))
 case first=>
  by_cases h0:Zg v id=[]
  ·rw[if_pos h0] at C;have ab:=QQ C;rw[h0,show B (Zn [])=⟨#[]⟩ from rfl,show(⟨#[]⟩:ByteArray).toList.isEmpty=true by rw[ByteArray.toList_eq];rfl];clear C;go_wp2_with fail
   go_meet
   exact⟨by rw[ab.out];rfl,rfl⟩
  ·rw[if_neg h0] at C;have ax:(B (Zn (Zg v id))).toList.isEmpty=false:=ZeX (by unfold Zn;intro h;exact h0 (List.map_eq_nil_iff.1 h));have U:B (Zn ls)=B (Zn (Zg v id)):=by rw[C]
   have ab:=QQ U;clear C U;rw[ax];generalize B (Zn (Zg v id))=LB at*;go_wp2_with fail
   go_meet
   exact⟨by rw[ab.out],rfl⟩
 obtain⟨rfl,rfl⟩:=hcut;clear ah C X;go_wp2_with fail
 go_loopw [17] (λi wx=>CfRel w ls ps i wx) (λi _=>ls.length - (intOf i).toNat)
 case atStart=>exact⟨0,Nat.zero_le _,rfl,QQ (CfSt.mk0 w),QQ rfl⟩
 case round=>
  obtain⟨k,hk,rfl,hS,L⟩:=hrel;have r0:=hS.res.cell 0;have r1:=hS.res.cell 1;have rf:=hS.res.free;have rl:=hS.res.lt;by_cases J:k<ls.length
  ·by_cases Y:k<ps.length
   ·have ad:=Zs5 ls ps k J Y;obtain⟨q,rfl,aB,aw⟩:=((ak.below hS.blw).more hS.blw.size).pc4 (List.getElem?_eq_getElem Y);obtain⟨q0,q1,q2,q3⟩:=aw;have aA:=ZaV (Zn ls) k (by rw[D];exact J);have af:(Zn ls)[k]'(by rw[D];exact J)=ltB ls[k]:=by simp[Zn]
    rw[af] at aA;have V:=λw hG=>Zqt ls[k] ps[k] (aC.out _ (List.getElem_mem Y)) w hG;have Gx:=QQ (G0.below hS.blw);have O:=QQ ad;clear ad af;unfold piA at V;generalize Zp ls[k] ps[k]=wg at*;generalize ltB ls[k]=ch at*;generalize aQ:ps[k]=p at*;have ay:k<(Zn ls).length:=by rw[D];exact J
    have Q0:Hid (Pc4 wr q k p):=QQ ⟨q0,q1,q2,q3⟩;have N:Hid (Pc4 wr.drew q k p):=QQ ⟨q0,q1,q2,q3⟩;have Gd:Hid (Grd wr.drew):=QQ (Gx.below (below_drewN (Below.refl _ _) 1));have Z:q.block<wr.heap.size:=aB;have Sd:Hid (CfSt w wr.drew):=QQ (hS.below (below_drewN (Below.refl _ _) 1));have ai:q.block<wr.drew.heap.size:=Z;have H0:=Q0;have am:=N;unfold Pc4 at Q0 N;by_cases W:wg=0
    ·have j:Hid (ckL ls ps 0=ckL (ls.drop (k+1)) (ps.drop (k+1)) (k+1)):=QQ (by rw[L.out,O.out,if_neg (by omega)]);subst W;clear O;go_wp2_with fail
     go_region_held3 (λw'=>w'.cell? (q.add (k*4))=some (.string p.nm)/\w'.cell? ⟨(q.add (k*4)).block,(q.add (k*4)).off+1,none⟩=some (.bool p.raw)/\w'.cell? ⟨(q.add (k*4)).block,(q.add (k*4)).off+2,none⟩=some (.string (B p.text))/\w'.cell? ⟨(q.add (k*4)).block,(q.add (k*4)).off+3,none⟩=some (.int .i64 p.set))
      (first|with_reducible exact Q0.out|with_reducible exact N.out|with_reducible exact Q1.out)
      (first|(go_at_call 245;refine MR (V _ (by first|with_reducible exact Gd.out|with_reducible exact Gx.out)) λw1 u=>?_;have S1:=QQ (by first|with_reducible exact Sd.out.below u|with_reducible exact hS.out.below u);have Q1:Hid (Pc4 w1 q k p):=QQ (by first|with_reducible exact Pc4.below am.out ai u|with_reducible exact Pc4.below H0.out Z u);unfold Pc4 at Q1))
     all_goals
      go_wp2_with fail
      go_roundw
      case rel=>exact⟨k+1,by omega,by go_num,S1,j⟩
      case measure=>simp[intOf];omega
    ·have j:=QQ (show ckL ls ps 0=(wg,k) by rw[L.out,O.out,if_pos W]);have aI:((wg:Int)==0)=false:=by rw[beq_eq_false_iff_ne];omega
     have aq:((wg:Int) !=0)=true:=by simp;omega
     clear O W;go_wp2_with fail
     go_region_held3 (λw'=>w'.cell? (q.add (k*4))=some (.string p.nm)/\w'.cell? ⟨(q.add (k*4)).block,(q.add (k*4)).off+1,none⟩=some (.bool p.raw)/\w'.cell? ⟨(q.add (k*4)).block,(q.add (k*4)).off+2,none⟩=some (.string (B p.text))/\w'.cell? ⟨(q.add (k*4)).block,(q.add (k*4)).off+3,none⟩=some (.int .i64 p.set))
      (first|with_reducible exact Q0.out|with_reducible exact N.out|with_reducible exact Q1.out)
      (first|(go_at_call 245;refine MR (V _ (by first|with_reducible exact Gd.out|with_reducible exact Gx.out)) λw1 u=>?_;have S1:=QQ (by first|with_reducible exact Sd.out.below u|with_reducible exact hS.out.below u);have Q1:Hid (Pc4 w1 q k p):=QQ (by first|with_reducible exact Pc4.below am.out ai u|with_reducible exact Pc4.below H0.out Z u);unfold Pc4 at Q1;have t0:=S1.out.res.cell 0;have t1:=S1.out.res.cell 1;have tf:=S1.out.res.free;have tl:=S1.out.res.lt))
     all_goals
      go_wp2_with fail
      have F:=S1.fin (.int .i64 (wg:Nat)) (.int .i64 (k:Nat));refine bodyPost_ret (results_cell_row rfl _ _ w.heap.size _ _ _ _ rfl F.1 underlying34 rfl (by kernel_rfl)) rfl ?_;exact HP.out _ _ _ j.out F.2
   ·have j:=QQ (show ckL ls ps 0=(5,k) by rw[L.out,Zs4 ls ps k J (by omega)]);go_wp2_with fail
    have F:=hS.fin (.int .i64 5) (.int .i64 (k:Nat));refine bodyPost_ret (results_cell_row rfl _ _ w.heap.size _ _ _ _ rfl F.1 underlying34 rfl (by kernel_rfl)) rfl ?_;exact HP.out _ _ _ j.out F.2
  ·have az:k=ls.length:=by omega
   have I:=Zs3 ls ps k (by omega);by_cases hp:k<ps.length
   ·have j:=QQ (show ckL ls ps 0=(5,k) by rw[L.out,I,if_pos hp]);clear I;subst az;go_wp2_with fail
    have F:=hS.fin (.int .i64 5) (.int .i64 (ls.length:Nat));refine bodyPost_ret (results_cell_row rfl _ _ w.heap.size _ _ _ _ rfl F.1 underlying34 rfl (by kernel_rfl)) rfl ?_;exact HP.out _ _ _ j.out F.2
   ·have j:=QQ (show ckL ls ps 0=(0,0) by rw[L.out,I,if_neg hp]);clear I;go_wp2_with fail
    have F:=hS.fin (.int .i64 0) (.int .i64 0);refine bodyPost_ret (results_cell_row rfl _ _ w.heap.size _ _ _ _ rfl F.1 underlying34 rfl (by kernel_rfl)) rfl ?_;exact HP.out _ _ _ j.out F.2
