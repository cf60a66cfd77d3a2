/- Lemmas for a statement on the tops; conditions: as each says. -/
import Derived.Test.YtnbkfkbcpfkddaaGreatDoorM22
set_option linter.unusedVariables false
set_option linter.unusedSimpArgs false
set_option maxRecDepth 100000
set_option maxHeartbeats 8000000
namespace Go.Proofs.YtnbkfkbcpfkddaaGreatDoor
open Go Go.RowKit
section
variable {P:Program}
theorem Zin (w:World)(base:Nat)(t ty e:TypeId)(i:TypeInfo)(z:Value)(size bytes:Nat)(ht:P.underlying t=some (.slice e))(hi:P.info? e=some i)(hz:i.zero=some z)(hsize:i.size=size)(hby:i.bytes=bytes)(hzs:z.cells.size=size)(hsz:0<size)
 (v:Value) (n:Nat) (xs:List Value) (hown:w.ownsRow base e size v n xs) (ad:Addr) (m c:Nat) (news:List Value) (hl:news.length=m*size) (hnews:∀j u,news[j]? =some u→w.cell? (ad.add j)=some u) (h1:∀u∈news,u.oneCell'=true)
 (h63:n+m≤maxLen) (hbytes:(n+m)*bytes≤140737488355328) (hbase:base≤w.heap.size):
 ∃v' w',(Builtin.append_ #[t,t] ty #[v,.slice (some ad) m c]).run P w= .ok v' w'∧w'.ownsRow base e size v' (n+m) (xs++news)∧w.grownBy w' v.ownBlock∧(v'.ownBlock=v.ownBlock∨v'.ownBlock=some w.heap.size):=by
 obtain⟨v',w',hr,h2,h3,h4⟩:=run_append_own (P:=P) w base t ty e i z size bytes ht hi hz hsize hby hzs hsz v n xs hown ad m c news hl hnews h1 h63 hbytes hbase;refine⟨v',w',hr,h2,h3,?_⟩;subst hsize;subst hby;have hml:n+m≤9223372036854775807:=by unfold maxLen at h63;omega
 rcases hown.2 with⟨rfl,rfl⟩|⟨g,cap,cur,rfl,hbg,hg,hnc,hcm,hcs,htake⟩
 · by_cases hm:m=0
   · exact .inl (by rw [h4.2 ⟨rfl,hm⟩])
   · have hx:xs=[]:=List.eq_nil_of_length_eq_zero (by simpa using hown.1);have hr2:=run_append_nil (P:=P) w t ty e i z ht hi hz ad m c news hl hnews (by omega) (by omega) (by have hb:=hbytes;simp only [Nat.zero_add] at hb;omega);rw [hr] at hr2;injection hr2 with hv _
     exact .inr (by rw [hv];rfl)
 · by_cases hroom:n+m≤cap
   · have hfit:n*i.size+news.length≤cur.size:=by rw [hl,hcs,←Nat.add_mul];exact Nat.mul_le_mul_right _ hroom
     have hr2:=run_append_room (P:=P) w t ty e i ht hi g n cap cur hg ad m c news hl hnews h1 hroom hfit;rw [hr] at hr2;injection hr2 with hv _
     exact .inl (by rw [hv];rfl)
   · have holds:∀j u,xs[j]? =some u→w.cell? ((⟨g,0,none⟩:Addr).add j)=some u:=hown.cells (g:=g) rfl;have hr2:=run_append_grow (P:=P) w t ty e i z ht hi hz ⟨g,0,none⟩ n cap xs hown.1 holds ad m c news hl hnews (by omega) (by omega) (growslice_fits (by omega) hbytes);rw [hr] at hr2;injection hr2 with hv _
     exact .inr (by rw [hv];rfl)
end
def W3 (w:World)(a b:Value):World:=((w.alloc (.cells #[a] 205)).alloc (.cells #[b] 205)).alloc (.cells #[.slice none 0 0] 205)
theorem Zhr (w:World)(a b:Value):(W3 w a b).heap.size=w.heap.size+3:=by simp [W3]
theorem Zir {w W:World} {a b:Value} (h:Below (w.heap.size+3) (W3 w a b) W):Below w.heap.size w W:=
 (((((Below.refl _ w).alloc (Nat.le_refl _) _).alloc (by simp) _).alloc (by simp;omega) _).trans (by unfold W3 at h;exact h.mono (by omega)))
theorem Zpk {w W:World} {a b:Value} (h:Below (w.heap.size+3) (W3 w a b) W):W.cell? ⟨w.heap.size,0,none⟩=some a∧W.cell? ⟨w.heap.size+1,0,none⟩=some b∧W.cell? ⟨w.heap.size+2,0,none⟩=some (.slice none 0 0)∧W.frozen? ⟨w.heap.size+2,0,none⟩=false∧W.heap[w.heap.size+2]? =some (.cells #[.slice none 0 0] 205 (0,0))∧w.heap.size+2<W.heap.size:=by
 have hs:=h.size;rw [Zhr] at hs;have h2:Below ((w.alloc (.cells #[a] 205)).alloc (.cells #[b] 205)).heap.size ((w.alloc (.cells #[a] 205)).alloc (.cells #[b] 205)) W:=Zh (by unfold W3 at h;simpa using h);obtain⟨b1,_,_⟩:=bx h2;obtain⟨a1,_,_⟩:=bx (Zh h2);have h3:Below (W3 w a b).heap.size (W3 w a b) W:=by rw [Zhr];exact h
 unfold W3 at h3;obtain⟨c1,c2,_⟩:=bx h3;have hh:=Zq (heap_alloc_new ((w.alloc (.cells #[a] 205)).alloc (.cells #[b] 205)) (.cells #[.slice none 0 0] 205)) h3;simp only [World.size_alloc] at b1 c1 c2 hh;exact⟨a1 0,b1 0,c1 0,c2 0,hh,by omega⟩
def RowC (W:World)(ad:Addr)(k:Nat)(x:Rw×Sl):Prop:=W.cell? (ad.add (k*4))=some (.int .i64 (x.1.1:Int))∧W.cell? ⟨(ad.add (k*4)).block,(ad.add (k*4)).off+1,none⟩=some (.int .i64 (x.1.2.1:Int))∧W.cell? ⟨(ad.add (k*4)).block,(ad.add (k*4)).off+2,none⟩=some (.int .i32 x.1.2.2.1)∧W.cell? ⟨(ad.add (k*4)).block,(ad.add (k*4)).off+3,none⟩=some (.slice x.2.1 x.2.2.1 x.2.2.2)
theorem RowC.step {W W':World} {ad:Addr} {k:Nat} {x:Rw×Sl} (h:RowC W ad k x)(hb:Below W.heap.size W W'):RowC W' ad k x:=by
 obtain⟨h1,h2,h3,h4⟩:=h;have hk:∀{a:Addr} {v:Value},W.cell? a=some v→W'.cell? a=some v:=fun{a v} e=>(hb.cell (World.block_lt_of_cell? _ _ e)).trans e;exact⟨hk h1,hk h2,hk h3,hk h4⟩
theorem TbR.rowC {w:World} {B:Nat} {A:Option Addr} {rs:List (Rw×Sl)} (h:TbR w B A rs){k:Nat} {x:Rw×Sl} (hk:rs[k]? =some x):∃ad,A=some ad∧RowC w ad k x∧Zah x.1∧ZA w B x:=by
 obtain⟨ad,h1,_,h2,h3,h4,h5,h6,h7,_⟩:=h.row hk;exact⟨ad,h1,⟨h2,h3,h4,h5⟩,h6,h7⟩
def OvW (base:Nat)(W0:World)(v5:Value)(ts ps:List (Rw×Sl))(wr:World):Prop:=wr.ownsRow base 322 4 v5 (ts++ps).length ((ts++ps).flatMap rV)∧(∀x∈ps,ZA wr wr.heap.size x)∧Below base W0 wr∧base≤wr.heap.size
theorem OvW.step {base:Nat} {W0:World} {v5:Value} {ts ps:List (Rw×Sl)} {wr w':World} (h:OvW base W0 v5 ts ps wr)(hb:Below wr.heap.size wr w'):OvW base W0 v5 ts ps w':=by
 obtain⟨h1,h2,h3,h4⟩:=h;have:=hb.size;exact⟨Zo h1 hb,fun x hx=>((h2 x hx).below hb).more hb.size,h3.trans (hb.mono h4),by omega⟩
theorem OvW.alloc {base:Nat} {W0:World} {v5:Value} {ts ps:List (Rw×Sl)} {wr:World} (h:OvW base W0 v5 ts ps wr)(o:Obj):OvW base W0 v5 ts ps (wr.alloc o):=h.step ((Below.refl _ _).alloc (Nat.le_refl _) o)
def R8 (W:World)(B8:Nat)(x:Rw×Sl):Prop:=W.heap[B8]? =some (.cells #[.int .i64 (x.1.1:Int),.int .i64 (x.1.2.1:Int),.int .i32 x.1.2.2.1,.slice x.2.1 x.2.2.1 x.2.2.2] 322 (0,0))
theorem R8.cells {W:World} {B8:Nat} {x:Rw×Sl} (h:R8 W B8 x):W.cell? ⟨B8,0,none⟩=some (.int .i64 (x.1.1:Int))∧W.cell? ⟨B8,1,none⟩=some (.int .i64 (x.1.2.1:Int))∧W.cell? ⟨B8,2,none⟩=some (.int .i32 x.1.2.2.1)∧W.cell? ⟨B8,3,none⟩=some (.slice x.2.1 x.2.2.1 x.2.2.2):=by
 refine⟨?_,?_,?_,?_⟩<;>(rw [cell_of_row _ B8 _ _ _ _ h];rfl)
def Ends (ts:List (Rw×Sl))(pt cur:Nat):Prop:=pt≤ts.length∧∀j x,j<pt→ts[j]? =some x→x.1.1+x.1.2.1≤cur
def OuRel (base:Nat)(W0:World)(ts os:List (Rw×Sl))(v5 i k:Value)(wr:World):Prop:=∃(kn pt lo:Nat) (ps:List (Rw×Sl)),kn≤os.length∧k= .int .i64 kn∧i= .int .i64 pt∧Ends ts pt lo∧(∀j y,kn≤j→os[j]? =some y→lo≤y.1.1)∧Zag ts (fun y=>y∈Zk (os.take kn)) ps lo∧ps.length≤lo∧lo≤1048576∧OvW base W0 v5 ts ps wr
def MiRel (base:Nat)(W0:World)(ts os:List (Rw×Sl))(kn:Nat)(x0:Rw×Sl)(B8:Nat)(v5 i f:Value)(wr:World):Prop:=∃(cur pt:Nat) (ps:List (Rw×Sl)),f= .int .i64 cur∧i= .int .i64 pt∧x0.1.1≤cur∧cur≤x0.1.1+x0.1.2.1∧Ends ts pt cur∧Zag ts (fun y=>y∈Zk (os.take kn)∨(y∈prs x0.1∧y.1<cur)) ps cur∧ps.length≤cur∧OvW base W0 v5 ts ps wr∧R8 wr B8 x0∧some B8≠v5.ownBlock
def InRel (base:Nat)(W0:World)(ts ps:List (Rw×Sl))(x0:Rw×Sl)(B8 cur:Nat)(v5 i:Value)(wr:World):Prop:=∃pt:Nat,i= .int .i64 pt∧Ends ts pt cur∧OvW base W0 v5 ts ps wr∧R8 wr B8 x0
theorem TbR.fr_mono {w:World} {B:Nat} {A:Option Addr} {rs:List (Rw×Sl)} (h:TbR w B A rs){a b:Nat} {x y:Rw×Sl} (hx:rs[a]? =some x)(hy:rs[b]? =some y)(hab:a<b):x.1.1+x.1.2.1≤y.1.1:=by
 have hp:=h.2.2.1;rw [List.pairwise_map,List.pairwise_iff_getElem] at hp;obtain⟨ha,rfl⟩:=List.getElem?_eq_some_iff.1 hx;obtain⟨hb,rfl⟩:=List.getElem?_eq_some_iff.1 hy;exact hp a b ha hb hab
theorem Zk5 {w:World} {B g:Nat} {x:Rw×Sl} (h:ZA w B x)(a:Value){T1:TypeId} {c1:Array Value} (h1:w.heap[g]? =some (.cells c1 T1 (0,0)))(n1:T1≠21):ZA (w.setCell ⟨g,0,none⟩ a) B x:=
 h.keep fun k _ ⟨cs,fr,hh⟩=>heap_set (by
  rintro rfl;rw [hh] at h1;injection h1 with h1;injection h1 with _ h1 _;exact n1 h1.symm) a
theorem ZpI {w:World} {A:Option Addr} {rs:List (Rw×Sl)} {g base:Nat} (h:Zbz w w.heap.size A rs)(hA:∀ad,A=some ad→base≤ad.block)(h1:g<base)(a:Value):Zbz (w.setCell ⟨g,0,none⟩ a) w.heap.size A rs:=by
 refine⟨⟨h.1.1,fun h0=> ?_⟩,h.2⟩;obtain⟨ad,hA2,hb,hc⟩:=h.1.2 h0;have hba:=hA ad hA2;refine⟨ad,hA2,hb,fun j u hu=> ?_⟩;have hbk:(ad.add j).block=ad.block:=by unfold Addr.add;split<;>rfl
 rw [Zba (by omega)];exact hc j u hu
def ZhX (ts os:List (Rw×Sl))(w0:World)(e:Ending)(w':World):Prop:=∃A c rs,e= .returned (.agg #[.slice A rs.length c])∧rs.length≤c∧rs.length≤ts.length+1048576∧TbR w' w'.heap.size A rs∧Zk rs=Zck (Zk ts) (Zk os)∧Below w0.heap.size w0 w'
theorem ZhY (At Ao:Option Addr)(ct co:Nat)(ts os:List (Rw×Sl))(hnt:ts.length≤8388608)(hno:os.length≤8388608)(w:World)(ht:TbR w w.heap.size At ts)(ho:TbR w w.heap.size Ao os):
 Calls Tryz.prog 261 #[.agg #[.slice At ts.length ct],.agg #[.slice Ao os.length co]] w (ZhX ts os w):=by
 obtain⟨i0,hi,iz0,iz1,iz2⟩:=info_parts Zg6;generalize hP:ZhX ts os w=P at*;obtain⟨W,hW⟩:∃W,W=W3 w (.slice At ts.length ct) (.slice Ao os.length co):=⟨_,rfl⟩
 have hcl:=ZlN At ct ts (by omega) w.heap.size W ((ht.below (Zir (by rw [hW];exact Below.refl _ _))).1);have hbx:∀wr,Below (w.heap.size+3) W wr→wr.cell? ⟨w.heap.size,0,none⟩=some (.slice At ts.length ct)∧wr.cell? ⟨w.heap.size+1,0,none⟩=some (.slice Ao os.length co)∧wr.cell? ⟨w.heap.size+2,0,none⟩=some (.slice none 0 0)∧wr.frozen? ⟨w.heap.size+2,0,none⟩=false∧wr.heap[w.heap.size+2]? =some (.cells #[.slice none 0 0] 205 (0,0))∧w.heap.size+2<wr.heap.size:=fun wr h=>Zpk (by rw [←hW];exact h);have hbw:∀wr,Below (w.heap.size+3) W wr→Below w.heap.size w wr:=fun wr h=>Zir (by rw [←hW];exact h);have hWs:W.heap.size=w.heap.size+3:=by rw [hW,Zhr]
 have hcl2:∀w',w'=W→Calls Tryz.prog 311 #[.slice At ts.length ct] w' fun e w1=>∃v,e= .returned v∧OvW (w.heap.size+3) W v ts [] w1:=fun w' h=>by
  subst h;refine hcl.mono ?_;rintro e w1 ⟨v,rfl,h1,h2⟩;rw [hWs] at h1 h2;have:=h2.size;exact⟨v,rfl,by simpa using h1,by simp,h2,by omega⟩
 unfold W3 at hW;have hcl3:=hcl2 _ hW.symm;clear hcl hcl2 hW;go_enter Tryz.func261,Tryz.ntmps261
 go_wp2_with (go_at_call 311;refine hcl3.mono ?_;rintro e w1 ⟨v5,rfl,hv0⟩;obtain⟨k0,k1,_,_,_,_⟩:=hbx _ hv0.2.2.1)
 go_loopw [5,6,17] (fun v i k wr=>OuRel (w.heap.size+3) W ts os v i k wr) (fun _ _ k _=>os.length - (intOf k).toNat)
 case atStart=>exact⟨0,0,0,[],by omega,rfl,rfl,⟨by omega,fun j x hj=>by omega⟩,fun _ _ _ _=>Nat.zero_le _,(ov_nil ts 0).more (fun y _=>by simp [Zk]) (Nat.le_refl _),by simp,by omega,hv0⟩
 case round=>
  obtain⟨kn,pt,lo,ps,hkn,rfl,rfl,hE,hlow,hov,hpl,hlo,hv⟩:=hrel;have hvb:=hv.2.2.2;obtain⟨k0',k1',k2',k3',k4',k5'⟩:=hbx _ hv.2.2.1;by_cases hlt:kn<os.length
  · obtain⟨x0,hx0⟩:∃x,os[kn]? =some x:=⟨_,List.getElem?_eq_getElem hlt⟩
    obtain⟨ado,rfl,⟨q0,q1,q2,q3⟩,hok0,_⟩:=(ho.below (hbw _ hv.2.2.1)).rowC hx0;have okr:x0.1.1+x0.1.2.1≤1048576:=hok0.2.1;have okn:1≤x0.1.2.1:=hok0.1;have hlx:=hlow kn x0 (Nat.le_refl _) hx0;have htk:∀y,y∈Zk (os.take (kn+1))↔y∈Zk (os.take kn)∨y∈prs x0.1:=fun y=>by
     have:=Zls os kn x0 hx0;unfold Za3 at this;rw [show Zk (os.take (kn+1))=Zk (os.take kn)++prs x0.1 from this,List.mem_append]
    have Htk:=Lib.hid htk;have Hlow:=Lib.hid hlow;have HV:=Lib.hid hv;have HOV:=Lib.hid hov;have HE:=Lib.hid hE;have hv8:=fun o=>hv.alloc o;have h8:R8 (wr.alloc (.cells #[.int .i64 (x0.1.1:Int),.int .i64 (x0.1.2.1:Int),.int .i32 x0.1.2.2.1,.slice x0.2.1 x0.2.2.1 x0.2.2.2] 322)) wr.heap.size x0:=heap_alloc_new wr _;have H80:=Lib.hid h8;have HNE:=Lib.hid (show some wr.heap.size≠u5.ownBlock from fun e=>by have:=(hv.1.lt wr.heap.size e.symm).2;omega);have HV8:=Lib.hid hv8;clear htk hlow hv hov hE h8 hv8 k0 k1;go_wp2_with fail
    generalize hB8:wr.heap.size=B8 at*;go_loopw [5,6,9] (fun v i f wr2=>MiRel (w.heap.size+3) W ts os kn x0 B8 v i f wr2) (fun _ _ f _=>x0.1.1+x0.1.2.1 - (intOf f).toNat)
    case atStart=>exact⟨x0.1.1,pt,ps,rfl,rfl,Nat.le_refl _,by omega,⟨HE.out.1,fun j x h1 h2=>Nat.le_trans (HE.out.2 j x h1 h2) hlx⟩,HOV.out.more (fun y _=>⟨fun h=> .inl h,fun h=>h.elim id (fun h=>by have:=(ZaG.1 h.1).1;omega)⟩) hlx,by omega,HV8.out _,H80.out,HNE.out⟩
    case round=>
     clear hlx hpl;obtain⟨cur,pt,ps,rfl,rfl,hc1,hc2,hE,hov,hpl,hv,h8,hne5⟩:=hrel;have HNE:=Lib.hid hne5;clear hne5;obtain⟨z0,z1,z2,z3⟩:=h8.cells;have HV:=Lib.hid hv;have H8:=Lib.hid h8;have HE:=Lib.hid hE;have HOV:=Lib.hid hov;clear hv h8 hE hov;by_cases hcur:cur<x0.1.1+x0.1.2.1
     · have hcuri:(cur:Int)<(x0.1.1:Int)+x0.1.2.1:=by omega
       go_wp2_with (go_at_call 263;refine(ZbO _ _ _ _ (by assumption) _).mono ?_;rintro e w4 ⟨rfl,hb4⟩;have HV:=Lib.hid (HV.out.step hb4);have H8:=Lib.hid (show R8 w4 B8 x0 from Zq H8.out hb4);obtain⟨z0,z1,z2,z3⟩:=H8.out.cells;obtain⟨kt,_,_,_,_,_⟩:=hbx _ HV.out.2.2.1)
       go_loopw [6] (fun i wr3=>InRel (w.heap.size+3) W ts ps x0 B8 cur u5 i wr3) (fun i _=>ts.length - (intOf i).toNat)
       case atStart=>exact⟨pt,rfl,HE.out,HV.out,H8.out⟩
       case round=>
        obtain⟨pt,rfl,hE,hv,h8⟩:=hrel;obtain⟨z0,z1,z2,z3⟩:=h8.cells;obtain⟨kt,_,_,_,_,_⟩:=hbx _ hv.2.2.1;have hov:=HOV.out;have HV:=Lib.hid hv;have H8:=Lib.hid h8;have HEi:=Lib.hid hE;by_cases hpt:pt<ts.length
        · obtain⟨y,hy⟩:∃y,ts[pt]? =some y:=⟨_,List.getElem?_eq_getElem hpt⟩
          obtain⟨adt,hAt,hyc,hoky,_⟩:=(ht.below (hbw _ hv.2.2.1)).rowC hy;subst hAt;have oky:y.1.1+y.1.2.1≤1048576:=hoky.2.1;have okyn:1≤y.1.2.1:=hoky.1;obtain⟨y0,y1,y2,y3⟩:=hyc;have HY:=Lib.hid (show RowC _ adt pt y from⟨y0,y1,y2,y3⟩);by_cases hle:y.1.1+y.1.2.1≤cur
          · have hlei:(y.1.1:Int)+y.1.2.1≤(cur:Int):=by omega
            have hE2:Ends ts (pt+1) cur:=⟨by omega,fun j x h1 h2=>by
             rcases Nat.lt_or_ge j pt with h3|h3
             · exact hE.2 j x h3 h2
             · obtain rfl:j=pt:=by omega
               rw [hy] at h2;injection h2 with h2;subst h2;exact hle⟩
            have HE2:=Lib.hid hE2;clear hE hv h8 hov hE2;go_wp2_with (go_at_call 263;refine(ZbO _ _ _ _ (by assumption) _).mono ?_;rintro e w4 ⟨rfl,hb4⟩;have HV:=Lib.hid (HV.out.step hb4);have H8:=Lib.hid (show R8 w4 B8 x0 from Zq H8.out hb4);obtain⟨z0,z1,z2,z3⟩:=H8.out.cells;obtain⟨kt,_,_,_,_,_⟩:=hbx _ HV.out.2.2.1;have HY:=Lib.hid (HY.out.step hb4);obtain⟨y0,y1,y2,y3⟩:=HY.out)
            refine⟨⟨pt+1,by simp,HE2.out,HV.out,H8.out⟩,by simp [intOf];omega⟩
          · have hlei:¬(y.1.1:Int)+y.1.2.1≤(cur:Int):=by omega
            by_cases hfy:y.1.1≤cur
            · have hfyi:(y.1.1:Int)≤(cur:Int):=by omega
              obtain⟨mn,hmn⟩:∃m:Nat,m=min (x0.1.1+x0.1.2.1) (y.1.1+y.1.2.1):=⟨_,rfl⟩
              have hmni:min ((x0.1.1:Int)+x0.1.2.1) ((y.1.1:Int)+y.1.2.1)=(mn:Int):=by omega
              have hmn1:cur<mn∧mn≤x0.1.1+x0.1.2.1∧mn≤y.1.1+y.1.2.1:=by omega
              clear hmn;have hE2:Ends ts pt mn:=⟨hE.1,fun j x h1 h2=>Nat.le_trans (hE.2 j x h1 h2) (by omega)⟩
              have hov2:Zag ts (fun z=>z∈Zk (os.take kn)∨(z∈prs x0.1∧z.1<mn)) ps mn:=hov.more (fun z hz=>by
               constructor
               · rintro(h|⟨h,h2⟩)
                 · exact .inl h
                 · exact .inr ⟨h,by omega⟩
               · rintro(h|⟨h,h2⟩)
                 · exact .inl h
                 · rcases Nat.lt_or_ge z.1 cur with h3|h3
                   · exact .inr ⟨h,h3⟩
                   · exfalso
                     have:Z5 (Zk ts) z.1=true:=hasT.2 ⟨y,List.mem_of_getElem? hy,by omega,by omega⟩;rw [hz] at this;cases this) (by omega)
              have HE2:=Lib.hid hE2;have HOV2:=Lib.hid hov2;clear hE hv h8 hov hE2 hov2;go_wp2_with (go_at_call 263;refine(ZbO _ _ _ _ (by assumption) _).mono ?_;rintro e w4 ⟨rfl,hb4⟩;have HV:=Lib.hid (HV.out.step hb4);have H8:=Lib.hid (show R8 w4 B8 x0 from Zq H8.out hb4);obtain⟨z0,z1,z2,z3⟩:=H8.out.cells;obtain⟨kt,_,_,_,_,_⟩:=hbx _ HV.out.2.2.1;have HY:=Lib.hid (HY.out.step hb4);obtain⟨y0,y1,y2,y3⟩:=HY.out)
              refine⟨⟨mn,pt,ps,rfl,rfl,by omega,by omega,HE2.out,HOV2.out,by omega,HV.out,H8.out,HNE.out⟩,by simp [intOf];omega⟩
            · have hfyi:¬(y.1.1:Int)≤(cur:Int):=by omega
              obtain⟨en,hen⟩:∃en,en=min (x0.1.1+x0.1.2.1) y.1.1:=⟨_,rfl⟩
              have hen1:cur<en:=by omega
              have hen2:en≤x0.1.1+x0.1.2.1:=by omega
              have hmni:min ((x0.1.1:Int)+x0.1.2.1) (y.1.1:Int)=(en:Int):=by omega
              have hnc:∀c,cur≤c→c<en→Z5 (Zk ts) c=false:=fun c hc1 hc2=>by
               cases hb:Z5 (Zk ts) c with
               |false=>rfl
               |true=>
                exfalso
                obtain⟨x,hx,g1,g2⟩:=hasT.1 hb;obtain⟨j,hj,rfl⟩:=List.getElem_of_mem hx;rcases Nat.lt_or_ge j pt with h1|h1
                · have:=hE.2 j _ h1 (List.getElem?_eq_getElem hj);omega
                · rcases Nat.lt_or_ge pt j with h2|h2
                  · have:=ht.fr_mono hy (List.getElem?_eq_getElem hj) h2;omega
                  · obtain rfl:j=pt:=by omega
                    rw [List.getElem?_eq_getElem hj] at hy;injection hy with hy;subst hy;omega
              have hnew:=fun q=>hov.part (q:=q) hok0 hc1 hen1 hen2 hnc;have Hnew:=Lib.hid hnew;have hpart:∀(W':World),Below w.heap.size w W'→Calls Tryz.prog 312 #[.agg #[.int .i64 (x0.1.1:Int),.int .i64 (x0.1.2.1:Int),.int .i32 x0.1.2.2.1,.slice x0.2.1 x0.2.2.1 x0.2.2.2],.int .i64 (cur:Int),.int .i64 (en:Int)] W' fun e w'=>∃q:Sl,e= .returned (.agg #[.int .i64 (cur:Int),.int .i64 ((en - cur:Nat):Int),.int .i32 (Zz x0.1 cur en).2.2.1,.slice q.1 q.2.1 q.2.2])∧ZA w' W'.heap.size (Zz x0.1 cur en,q)∧Below W'.heap.size W' w':=fun W' hB=>Zh1 x0 cur en hok0 hc1 hen1 hen2 W' (((ho.2.1 x0 (List.mem_of_getElem? hx0)).2.below hB).more hB.size);have hpl:(ts++ps).length≤9437184:=by rw [List.length_append];omega
              clear hnew hnc hov hen;go_wp2_with (first|(go_at_call 263;refine(ZbO _ _ _ _ (by assumption) _).mono ?_;rintro e w4 ⟨rfl,hb4⟩;have HV:=Lib.hid (HV.out.step hb4);have H8:=Lib.hid (show R8 w4 B8 x0 from Zq H8.out hb4);obtain⟨z0,z1,z2,z3⟩:=H8.out.cells;obtain⟨kt,_,_,_,_,_⟩:=hbx _ HV.out.2.2.1;have HY:=Lib.hid (HY.out.step hb4);obtain⟨y0,y1,y2,y3⟩:=HY.out)|(go_at_call 312;refine(hpart _ (hbw _ HV.out.2.2.1)).mono ?_;rintro e w6 ⟨q6,rfl,hsg6,hb6⟩;have HV:=Lib.hid (HV.out.step hb6);have H8:=Lib.hid (show R8 w6 B8 x0 from Zq H8.out hb6);have HSG:=Lib.hid (hsg6.more hb6.size))|(at_builtin;obtain⟨v7,w7,hrun,hown7,hg7,hloc⟩:=Zin (P:=Tryz.prog) (w6.alloc (.cells #[.int .i64 (cur:Int),.int .i64 ((en - cur:Nat):Int),.int .i32 (Zz x0.1 cur en).2.2.1,.slice q6.1 q6.2.1 q6.2.2] 322)) (w.heap.size+3) 203 203 322 i0 _ 4 48 Tryz.underlying203 hi iz0 iz1 iz2 rfl (by decide) _ (ts++ps).length _ ((HV.out.alloc _).1) ⟨w6.heap.size,0,none⟩ 1 1 [.int .i64 (cur:Int),.int .i64 ((en - cur:Nat):Int),.int .i32 (Zz x0.1 cur en).2.2.1,.slice q6.1 q6.2.1 q6.2.2] rfl (ZeM w6 _ _ _ _ _) (by intro u hu;simp only [List.mem_cons,List.not_mem_nil,or_false] at hu;rcases hu with rfl|rfl|rfl|rfl<;>rfl) (by unfold maxLen;omega) (by omega) (by have:=HV.out.2.2.2;simp;omega);refine Lib.wpList_append_run _ rfl _ _ _ _ rfl _ _ rfl rfl _ _ hrun ?_;clear hrun;have HOWN:=Lib.hid hown7;have HG7:=Lib.hid hg7;have HLOC:=Lib.hid hloc;clear hown7 hg7 hloc))
              have HV6:=HV.out.alloc (.cells #[.int .i64 (cur:Int),.int .i64 ((en - cur:Nat):Int),.int .i32 (Zz x0.1 cur en).2.2.1,.slice q6.1 q6.2.1 q6.2.2] 322);have HB7:=Z3 HV6.2.2.1 HV6.1 HG7.out HV6.2.2.2 (Nat.le_refl _);have hsg7:∀x∈ps++[(Zz x0.1 cur en,q6)],ZA w7 w7.heap.size x:=fun x hx=>by
               rcases List.mem_append.1 hx with h1|h1
               · exact(Zbt (HV6.2.1 x h1) HV6.1 (by decide) HG7.out (Nat.le_refl _)).more HG7.out.size
               · simp only [List.mem_singleton] at h1;subst h1;exact(Zbt ((HSG.out.below ((Below.refl _ _).alloc (Nat.le_refl _) _)).more (by simp)) HV6.1 (by decide) HG7.out (Nat.le_refl _)).more HG7.out.size
              have hl8:=(Array.getElem?_eq_some_iff.1 H8.out).1;have h88:=(Below.heap_alloc w6 (.cells #[.int .i64 (cur:Int),.int .i64 ((en - cur:Nat):Int),.int .i32 (Zz x0.1 cur en).2.2.1,.slice q6.1 q6.2.1 q6.2.2] 322) _ hl8).trans H8.out;refine⟨⟨en,pt,ps++[(Zz x0.1 cur en,q6)],rfl,(by first|rfl|rw [hptn]),by omega,by omega,⟨HEi.out.1,fun j x h1 h2=>Nat.le_trans (HEi.out.2 j x h1 h2) (by omega)⟩,(Hnew.out q6).more (fun z _=> ?_) (Nat.le_refl _),by rw [List.length_append,List.length_singleton];omega,⟨?_,hsg7,HB7,by have:=HG7.out.size;have:=HV6.2.2.2;omega⟩,(HG7.out.block _ (by simp;omega) HNE.out).trans h88,fun e=>HLOC.out.elim (fun h=>HNE.out (e.trans h)) (fun h=>by rw [h] at e;injection e with e;simp at e;omega)⟩,by simp [intOf];omega⟩
              · constructor
                · rintro((h|⟨h,h2⟩)|⟨h,h2,h3⟩)
                  · exact .inl h
                  · exact .inr ⟨h,by omega⟩
                  · exact .inr ⟨h,h3⟩
                · rintro(h|⟨h,h2⟩)
                  · exact .inl (.inl h)
                  · rcases Nat.lt_or_ge z.1 cur with h3|h3
                    · exact .inl (.inr ⟨h,h3⟩)
                    · exact .inr ⟨h,h3,h2⟩
              · have:=HOWN.out;rw [←List.append_assoc,List.length_append,List.flatMap_append];simpa [rV,slV,Zz] using this
        · have hptn:pt=ts.length:=by have:=hE.1;omega
          have hpti:¬(pt:Int)<(ts.length:Int):=by omega
          obtain⟨en,hen⟩:∃en,en=x0.1.1+x0.1.2.1:=⟨_,rfl⟩
          have hen1:cur<en:=by omega
          have hen2:en≤x0.1.1+x0.1.2.1:=by omega
          have heni:(x0.1.1:Int)+x0.1.2.1=(en:Int):=by omega
          have hnc:∀c,cur≤c→c<en→Z5 (Zk ts) c=false:=fun c hc1 hc2=>by
           cases hb:Z5 (Zk ts) c with
           |false=>rfl
           |true=>
            exfalso
            obtain⟨x,hx,g1,g2⟩:=hasT.1 hb;obtain⟨j,hj,rfl⟩:=List.getElem_of_mem hx;rcases Nat.lt_or_ge j pt with h1|h1
            · have:=hE.2 j _ h1 (List.getElem?_eq_getElem hj);omega
            · omega
          have hnew:=fun q=>hov.part (q:=q) hok0 hc1 hen1 hen2 hnc;have Hnew:=Lib.hid hnew;have hpart:∀(W':World),Below w.heap.size w W'→Calls Tryz.prog 312 #[.agg #[.int .i64 (x0.1.1:Int),.int .i64 (x0.1.2.1:Int),.int .i32 x0.1.2.2.1,.slice x0.2.1 x0.2.2.1 x0.2.2.2],.int .i64 (cur:Int),.int .i64 (en:Int)] W' fun e w'=>∃q:Sl,e= .returned (.agg #[.int .i64 (cur:Int),.int .i64 ((en - cur:Nat):Int),.int .i32 (Zz x0.1 cur en).2.2.1,.slice q.1 q.2.1 q.2.2])∧ZA w' W'.heap.size (Zz x0.1 cur en,q)∧Below W'.heap.size W' w':=fun W' hB=>Zh1 x0 cur en hok0 hc1 hen1 hen2 W' (((ho.2.1 x0 (List.mem_of_getElem? hx0)).2.below hB).more hB.size);have hpl:(ts++ps).length≤9437184:=by rw [List.length_append];omega
          clear hnew hnc hov hen;go_wp2_with (first|(go_at_call 263;refine(ZbO _ _ _ _ (by assumption) _).mono ?_;rintro e w4 ⟨rfl,hb4⟩;have HV:=Lib.hid (HV.out.step hb4);have H8:=Lib.hid (show R8 w4 B8 x0 from Zq H8.out hb4);obtain⟨z0,z1,z2,z3⟩:=H8.out.cells;obtain⟨kt,_,_,_,_,_⟩:=hbx _ HV.out.2.2.1)|(go_at_call 312;refine(hpart _ (hbw _ HV.out.2.2.1)).mono ?_;rintro e w6 ⟨q6,rfl,hsg6,hb6⟩;have HV:=Lib.hid (HV.out.step hb6);have H8:=Lib.hid (show R8 w6 B8 x0 from Zq H8.out hb6);have HSG:=Lib.hid (hsg6.more hb6.size))|(at_builtin;obtain⟨v7,w7,hrun,hown7,hg7,hloc⟩:=Zin (P:=Tryz.prog) (w6.alloc (.cells #[.int .i64 (cur:Int),.int .i64 ((en - cur:Nat):Int),.int .i32 (Zz x0.1 cur en).2.2.1,.slice q6.1 q6.2.1 q6.2.2] 322)) (w.heap.size+3) 203 203 322 i0 _ 4 48 Tryz.underlying203 hi iz0 iz1 iz2 rfl (by decide) _ (ts++ps).length _ ((HV.out.alloc _).1) ⟨w6.heap.size,0,none⟩ 1 1 [.int .i64 (cur:Int),.int .i64 ((en - cur:Nat):Int),.int .i32 (Zz x0.1 cur en).2.2.1,.slice q6.1 q6.2.1 q6.2.2] rfl (ZeM w6 _ _ _ _ _) (by intro u hu;simp only [List.mem_cons,List.not_mem_nil,or_false] at hu;rcases hu with rfl|rfl|rfl|rfl<;>rfl) (by unfold maxLen;omega) (by omega) (by have:=HV.out.2.2.2;simp;omega);refine Lib.wpList_append_run _ rfl _ _ _ _ rfl _ _ rfl rfl _ _ hrun ?_;clear hrun;have HOWN:=Lib.hid hown7;have HG7:=Lib.hid hg7;have HLOC:=Lib.hid hloc;clear hown7 hg7 hloc))
          have HV6:=HV.out.alloc (.cells #[.int .i64 (cur:Int),.int .i64 ((en - cur:Nat):Int),.int .i32 (Zz x0.1 cur en).2.2.1,.slice q6.1 q6.2.1 q6.2.2] 322);have HB7:=Z3 HV6.2.2.1 HV6.1 HG7.out HV6.2.2.2 (Nat.le_refl _);have hsg7:∀x∈ps++[(Zz x0.1 cur en,q6)],ZA w7 w7.heap.size x:=fun x hx=>by
           rcases List.mem_append.1 hx with h1|h1
           · exact(Zbt (HV6.2.1 x h1) HV6.1 (by decide) HG7.out (Nat.le_refl _)).more HG7.out.size
           · simp only [List.mem_singleton] at h1;subst h1;exact(Zbt ((HSG.out.below ((Below.refl _ _).alloc (Nat.le_refl _) _)).more (by simp)) HV6.1 (by decide) HG7.out (Nat.le_refl _)).more HG7.out.size
          have hl8:=(Array.getElem?_eq_some_iff.1 H8.out).1;have h88:=(Below.heap_alloc w6 (.cells #[.int .i64 (cur:Int),.int .i64 ((en - cur:Nat):Int),.int .i32 (Zz x0.1 cur en).2.2.1,.slice q6.1 q6.2.1 q6.2.2] 322) _ hl8).trans H8.out;refine⟨⟨en,pt,ps++[(Zz x0.1 cur en,q6)],rfl,(by first|rfl|rw [hptn]),by omega,by omega,⟨HEi.out.1,fun j x h1 h2=>Nat.le_trans (HEi.out.2 j x h1 h2) (by omega)⟩,(Hnew.out q6).more (fun z _=> ?_) (Nat.le_refl _),by rw [List.length_append,List.length_singleton];omega,⟨?_,hsg7,HB7,by have:=HG7.out.size;have:=HV6.2.2.2;omega⟩,(HG7.out.block _ (by simp;omega) HNE.out).trans h88,fun e=>HLOC.out.elim (fun h=>HNE.out (e.trans h)) (fun h=>by rw [h] at e;injection e with e;simp at e;omega)⟩,by simp [intOf];omega⟩
          · constructor
            · rintro((h|⟨h,h2⟩)|⟨h,h2,h3⟩)
              · exact .inl h
              · exact .inr ⟨h,by omega⟩
              · exact .inr ⟨h,h3⟩
            · rintro(h|⟨h,h2⟩)
              · exact .inl (.inl h)
              · rcases Nat.lt_or_ge z.1 cur with h3|h3
                · exact .inl (.inr ⟨h,h3⟩)
                · exact .inr ⟨h,h3,h2⟩
          · have:=HOWN.out;rw [←List.append_assoc,List.length_append,List.flatMap_append];simpa [rV,slV,Zz] using this
     · have hcure:cur=x0.1.1+x0.1.2.1:=by omega
       have hcuri:¬(cur:Int)<(x0.1.1:Int)+x0.1.2.1:=by omega
       go_wp2_with (go_at_call 263;refine(ZbO _ _ _ _ (by assumption) _).mono ?_;rintro e w4 ⟨rfl,hb4⟩;have HV:=Lib.hid (HV.out.step hb4);have H8:=Lib.hid (show R8 w4 B8 x0 from Zq H8.out hb4);obtain⟨z0,z1,z2,z3⟩:=H8.out.cells;obtain⟨kt,_,_,_,_,_⟩:=hbx _ HV.out.2.2.1)
       refine⟨⟨kn+1,pt,cur,ps,by omega,by simp,rfl,HE.out,fun j y h1 h2=>by have:=ho.fr_mono hx0 h2 (by omega);omega,HOV.out.more (fun z _=> ?_) (Nat.le_refl _),hpl,by omega,HV.out⟩,by simp [intOf];omega⟩;rw [Htk.out];constructor
       · rintro(h|⟨h,h2⟩)
         · exact .inl h
         · exact .inr h
       · rintro(h|h)
         · exact .inl h
         · exact .inr ⟨h,by have:=(ZaG.1 h).2.1;omega⟩
  · obtain rfl:kn=os.length:=by omega
    rw [List.take_length] at hov;obtain⟨A5,c5,hv5,hc5,_⟩:=Reads.of_own hv.1;obtain⟨nn,hnn⟩:∃n,n=(ts++ps).length:=⟨_,rfl⟩
    rw [←hnn] at hv5;subst hv5;have hbf:=ZhF (w.heap.size+3) (.slice A5 nn c5) (ts++ps) wr hv.1 hvb (by rw [List.length_append];omega);have Hlt5:=Lib.hid (show∀ad,A5=some ad→w.heap.size+3≤ad.block from fun ad h=>(hv.1.lt ad.block (by rw [h];rfl)).1);have HV:=Lib.hid hv;have HOV:=Lib.hid hov;have Hnn:=Lib.hid hnn;clear hv hov hE hlow hnn;go_wp2_with (go_at_call 310;refine hbf.mono ?_;rintro e w9 ⟨rfl,A6,c6,rs',hv6,hc6,hperm,hsort,hrd,hbb,hgr9⟩;have HB9:=HV.out.2.2.1.trans hbb;obtain⟨_,_,c2,f2,n2,g2⟩:=hbx _ HB9;injection hv6 with hA6 hx6 hcc6;clear hx6;subst hA6;subst hcc6;have Hperm:=Lib.hid hperm;have Hsort:=Lib.hid hsort;have Hrd:=Lib.hid hrd;clear hperm hsort hrd)
    obtain⟨hro,hprs⟩:=ov_end ht.2.2 ho.2.2 HOV.out Hperm.out Hsort.out;have hlen:rs'.length=nn:=Hperm.out.length_eq.trans Hnn.out.symm;have hnl:nn=ts.length+ps.length:=Hnn.out.trans List.length_append;have hsg9:∀x∈rs',ZA w9 w9.heap.size x:=fun x hx=>by
     rcases List.mem_append.1 (Hperm.out.mem_iff.1 hx) with h1|h1
     · exact((ht.2.1 x h1).2.below (hbw _ HB9)).more (hbw _ HB9).size
     · exact(Zbt (HV.out.2.1 x h1) HV.out.1 (by decide) hgr9 (Nat.le_refl _)).more hgr9.size
    have hf:P (.returned (.agg #[.slice A5 nn c5])) (w9.setCell ⟨w.heap.size+2,0,none⟩ (.slice A5 nn c5)):=by
     rw [←hP];refine⟨A5,c5,rs',by rw [hlen],by rw [hlen,Hnn.out];exact hc5,by omega,⟨?_,fun x hx=>⟨hro.2 _ (List.mem_map_of_mem hx),?_⟩,hro⟩,hprs,(hbw _ HB9).setCell (by simp) _⟩
     · rw [show(w9.setCell ⟨w.heap.size+2,0,none⟩ (.slice A5 nn c5)).heap.size=w9.heap.size by simp];exact ZpI Hrd.out Hlt5.out (by omega) _
     · rw [show(w9.setCell ⟨w.heap.size+2,0,none⟩ (.slice A5 nn c5)).heap.size=w9.heap.size by simp];exact Zk5 (hsg9 x hx) _ n2 (by decide)
    refine bodyPost_ret (v:= .agg #[.slice A5 nn c5]) (by simp [results,Tryz.results261,go_sem,c2]) rfl ?_;exact hf
def PrsL (w:World)(B:Nat)(A:Option Addr)(l:List Pr):Prop:=Reads w B 2 A l.length (l.flatMap prV)
theorem Zjc:∀(l:List Pr) (k i:Nat) (x:Pr),l[k]? =some x→i<2→(l.flatMap prV)[k*2+i]? =(prV x)[i]?
 |[],k,i,x,h,_=>by simp at h
 |a::l,0,i,x,h,hi=>by
  simp at h;subst h;rw [List.flatMap_cons,Nat.zero_mul,Nat.zero_add,List.getElem?_append_left (by simpa [prV] using hi)]
 |a::l,k+1,i,x,h,hi=>by
  rw [List.flatMap_cons,List.getElem?_append_right (by simp [prV];omega),show(prV a).length=2 from rfl,show(k+1)*2+i - 2=k*2+i by omega];exact Zjc l k i x (by simpa using h) hi
theorem PrsL.pair {w:World} {B:Nat} {A:Option Addr} {l:List Pr} (h:PrsL w B A l){k:Nat} {x:Pr} (hk:l[k]? =some x):
 ∃ad,A=some ad∧ad.block<B∧w.cell? (ad.add (k*2))=some (.int .i64 (x.1:Int))∧w.cell? ⟨(ad.add (k*2)).block,(ad.add (k*2)).off+1,none⟩=some (.int .i32 x.2)∧∀j u,(prV x)[j]? =some u→w.cell? ((ad.add (k*2)).add j)=some u:=by
 have hlt:k<l.length:=(List.getElem?_eq_some_iff.1 hk).1;obtain⟨ad,hA,hb,hc⟩:=h.2 (by omega);have hg:∀i u,(prV x)[i]? =some u→i<2→w.cell? (ad.add (k*2+i))=some u:=fun i u hu hi=>hc _ _ ((Zjc l k i x hk hi).trans hu);have g0:=hg 0 _ rfl (by omega);have g1:=hg 1 _ rfl (by omega);rw [Nat.add_zero] at g0;rw [ZdB _ _ _ (by omega)] at g1;refine⟨ad,hA,hb,g0,g1,fun j u hu=> ?_⟩;have hj:j<2:=by have:=(List.getElem?_eq_some_iff.1 hu).1;exact this
 rw [ZfR];exact hg j u hu hj
end Go.Proofs.YtnbkfkbcpfkddaaGreatDoor
