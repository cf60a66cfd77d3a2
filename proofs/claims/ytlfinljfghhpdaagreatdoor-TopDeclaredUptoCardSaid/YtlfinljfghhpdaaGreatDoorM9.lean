/- Lemmas for a statement on the tops; conditions: as each says. -/
import Derived.Lib.AppendZeros
import Derived.Laws.BytesString
import Derived.Test.YtlfinljfghhpdaaGreatDoorM8
set_option linter.unusedVariables false
set_option linter.unusedSimpArgs false
set_option maxRecDepth 100000
set_option maxHeartbeats 200000
namespace Go.Proofs.YtlfinljfghhpdaaGreatDoor
open Go Go.RowKit
namespace Ev
open Go.Lib
theorem Zi5 (zv:Value)(m:Nat):Builtin.zeroCells #[zv] m=(List.replicate m zv).toArray:=by
 unfold Builtin.zeroCells;apply Array.ext
 · simp
 · intro i h1 h2;simp [Nat.mod_one]
section
variable {P:Program}
theorem Ztq (w:World)(base:Nat)(t tn ty e:TypeId)(i:TypeInfo)(z zv:Value)(ht:P.underlying t=some (.slice e))(htn:P.underlying tn=some (.int .i64))(hi:P.info? e=some i)(hz:i.zero=some z)
 (hsize:i.size=1) (hby:i.bytes=1) (hzc:z.cells=#[zv]) (h1:zv.oneCell'=true) (v:Value) (n:Nat) (xs:List Value) (hown:w.ownsRow base e 1 v n xs) (m:Nat) (hm:0<m) (hN:n+m≤100000) (hbase:base≤w.heap.size):
 ∃v' w',(Builtin.append_ #[t,tn] ty #[v,.int .i64 m]).run P w= .ok v' w'∧w'.ownsRow base e 1 v' (n+m) (xs++List.replicate m zv)∧w.grownBy w' v.ownBlock∧(v'.ownBlock=v.ownBlock∨v'.ownBlock=some w.heap.size):=by
 have hlen:(xs++List.replicate m zv).length=(n+m)*1:=by rw [List.length_append,hown.1];simp
 have hw:IntKind.i64.wrap (m:Int)=m:=ZiX m (by omega);have hneg:¬((m:Int)<0):=by omega
 have h48i:¬(281474976710656<(m:Int)):=by omega
 have hm0:¬m=0:=by omega
 have h1a:∀u∈List.replicate m zv,u.oneCell'=true:=fun u hu=>by rw [List.eq_of_mem_replicate hu];exact h1
 have grown:∀(old:Nat),old<n+m→∀(row:Option Nat),
  (w.drew.alloc (.cells (xs.toArray++(List.replicate m zv).toArray++Builtin.zeroCells z.cells (grownCap w (n+m) old e - (n+m))) e)).ownsRow base e 1
   (.slice (some ⟨w.heap.size,0,none⟩) (n+m) (grownCap w (n+m) old e)) (n+m) (xs++List.replicate m zv)∧
  w.grownBy (w.drew.alloc (.cells (xs.toArray++(List.replicate m zv).toArray++Builtin.zeroCells z.cells (grownCap w (n+m) old e - (n+m))) e)) row:=by
  intro old ho row;have hge:=grownCap_ge w (n+m) old e;have hcm:grownCap w (n+m) old e≤maxLen:=grownCap_le_maxLen w (n+m) old e (by unfold maxLen;omega);refine⟨⟨hlen,.inr ⟨w.heap.size,_,_,rfl,hbase,heap_alloc_new w.drew _,hge,hcm,?_,?_⟩⟩,⟨rfl,rfl,rfl,by simp,fun k hk _=>heap_alloc_old w.drew _ k hk⟩⟩
  · rw [hzc];simp only [Array.size_append,List.size_toArray,size_zeroCells,hown.1,List.length_replicate];simp;omega
  · simp only [Array.toList_append,List.append_assoc];rw [←List.append_assoc,←hlen];exact List.take_left
 rcases hown.2 with⟨rfl,rfl⟩|⟨g,cap,cur,rfl,hbg,hg,hnc,hcm,hcs,htake⟩
 · have hx:xs=[]:=List.eq_nil_of_length_eq_zero (by simpa using hown.1);subst hx;have hr:=run_append_nil_zeros (P:=P) w t tn ty e i z .i64 .i64 ht htn hi hz m hm (by omega) (by omega) (by rw [hby];omega);have hgr:=grown 0 (by omega) (Value.ownBlock (.slice none 0 0));rw [hzc,Zi5] at hr;simp only [Nat.zero_add,List.nil_append,Array.empty_append,hzc] at hgr⊢;exact⟨_,_,hr,hgr.1,hgr.2,.inr rfl⟩
 · by_cases hroom:n+m≤cap
   · have hfit:n*1+(List.replicate m zv).length≤cur.size:=by rw [hcs];simp;omega
     have hst:=run_storeCells_at P g (n*1) e (List.replicate m zv) 0 cur w hg (by simpa using hfit) h1a;simp only [Nat.add_zero] at hst;have hr:(Builtin.append_ #[t,tn] ty #[.slice (some ⟨g,0,none⟩) n cap,.int .i64 m]).run P w= .ok (.slice (some ⟨g,0,none⟩) (n+m) cap) (w.setRow g (cur.toList.take (n*1)++List.replicate m zv++cur.toList.drop (n*1+(List.replicate m zv).length)).toArray):=by
      simp [Builtin.append_,run_underlying ht,run_underlying htn,sizeOf,typeInfo,zeroValue,hi,hz,hsize,hby,hzc,Zi5,asInt,asIntOf,hw,hneg,h48i,hroom,hm0,Addr.add_lit,Nat.mul_one] at hst⊢;rw [hst];rfl
     refine⟨_,_,hr,⟨hlen,.inr ⟨g,cap,_,rfl,hbg,setRow_heap w g cur _ e _ hg,hroom,hcm,?_,?_⟩⟩,⟨rfl,rfl,rfl,by simp,fun k _ hk=>setRow_other w g k _ (fun e=>hk (by simp [Value.ownBlock,e]))⟩,.inl rfl⟩
     · simp only [List.size_toArray,List.length_append,List.length_take,List.length_drop,Array.length_toList];omega
     · rw [htake,←hlen];exact List.take_left
   · have holds:∀j u,xs[j]? =some u→w.cell? ((⟨g,0,none⟩:Addr).add j)=some u:=hown.cells (g:=g) rfl;have hn:¬(n+m≤cap):=by omega
     have h63':¬(9223372036854775807<((n:Int)+(m:Int))):=by omega
     have h48':¬(281474976710656<Builtin.nextslicecap (n+m) cap):=by
      have:=growslice_fits (need:=n+m) (bytes:=1) (by omega:cap<n+m) (by omega);omega
     have hfo:=run_firstCells_some (P:=P) w.drew 1 n ⟨g,0,none⟩ n cap xs hown.1 (by simpa using holds);have hr:(Builtin.append_ #[t,tn] ty #[.slice (some ⟨g,0,none⟩) n cap,.int .i64 m]).run P w= .ok (.slice (some ⟨w.heap.size,0,none⟩) (n+m) (grownCap w (n+m) cap e)) (w.drew.alloc (.cells (xs.toArray++(List.replicate m zv).toArray++Builtin.zeroCells z.cells (grownCap w (n+m) cap e - (n+m))) e)):=by
      simp [Builtin.append_,run_underlying ht,run_underlying htn,sizeOf,typeInfo,zeroValue,hi,hz,hsize,hby,hzc,Zi5,asInt,asIntOf,hw,hneg,h48i,hn,h63',h48',hm0,Question.forced,hfo,newRow,grownCap]
     have hgr:=grown cap (by omega) (Value.ownBlock (.slice (some ⟨g,0,none⟩) n cap));exact⟨_,_,hr,hgr.1,hgr.2,.inr rfl⟩
end
section
variable {P:Program} {E:Env} {n0:Nat} {w0 w:World} {ρ:Rho} {nx fr:Nat} {h:Hp} {t:List AV} {a:Act} {o:Oper} {v:AV}
theorem IV.grow {w':World} {h1:Hp} {g c b0:Nat} {x:Ob} (hI:IV n0 w0 ρ nx h w)(hf:fr<nx)(hn:ρ fr=none)(hsub:∀y∈h1,y∈h)(hos:w'.os=w.os)(htp:w'.tape=w.tape)(hout:w'.output=w.output)(hsz:w.heap.size≤w'.heap.size)
 (hb0:n0≤b0) (hg0:n0≤g) (hg1:g<w'.heap.size) (hoth:∀k,k<w.heap.size→k≠g→k≠b0→w'.heap[k]? =w.heap[k]?) (hapart:∀y∈h1,∀b c',ρ y.1=some (b,c')→b≠g∧b≠b0)
 (hx:ObR (ρ.put fr (g,c)) w' g c x):IV n0 w0 (ρ.put fr (g,c)) nx ((fr,x)::h1) w':=by
 have hle:=Rho.put_le (x:=(g,c)) hn;have old:∀y∈h,∀b c1,ρ.put fr (g,c) y.1=some (b,c1)→ρ y.1=some (b,c1):=by
  intro y hy b c1 hb;obtain⟨b2,c3,h1,_⟩:=hI.ob y hy;rw [hle _ _ h1] at hb;rw [h1];exact hb
 refine⟨fun i hi=>by rw [Rho.put_ne (by omega)];exact hI.fresh i hi,⟨hos.trans hI.low.os,htp.trans hI.low.tape,hout.trans hI.low.output,Nat.le_trans hI.low.size hsz,fun k hk=>(hoth k (Nat.lt_of_lt_of_le hk hI.size) (by omega) (by omega)).trans (hI.low.block k hk)⟩,hI.hn,?_,?_,?_⟩
 · intro i b c' hi;by_cases e:i=fr
   · subst e;rw [Rho.put_self] at hi;injection hi with hi
     injection hi with h1 h2
     subst h1;exact⟨hg0,hg1⟩
   · rw [Rho.put_ne e] at hi;have:=hI.rng i b c' hi;omega
 · intro y hy;rcases List.mem_cons.1 hy with rfl|hy
   · exact⟨_,_,Rho.put_self,hx⟩
   · obtain⟨b,c',h1,h2⟩:=hI.ob y (hsub y hy);exact⟨b,c',hle _ _ h1,h2.mono hle (hoth b (hI.rng _ _ _ h1).2 (hapart y hy _ _ h1).1 (hapart y hy _ _ h1).2)⟩
 · intro y hy z hz hne b c1 b' c2 hb hb';rcases List.mem_cons.1 hy with rfl|hy<;>rcases List.mem_cons.1 hz with rfl|hz
   · exact absurd rfl hne
   · have e:=old z (hsub z hz) _ _ hb';rw [Rho.put_self] at hb;injection hb with hb
     injection hb with h1 h2
     rw [←h1];exact fun ee=>(hapart z hz _ _ e).1 ee.symm
   · have e:=old y (hsub y hy) _ _ hb;rw [Rho.put_self] at hb';injection hb' with hb'
     injection hb' with h1 h2
     rw [←h1];exact(hapart y hy _ _ e).1
   · exact hI.inj y (hsub y hy) z (hsub z hz) hne _ _ _ _ (old y (hsub y hy) _ _ hb) (old z (hsub z hz) _ _ hb')
theorem Zj1 {ts e:Nat} {te:TI} (hd:P.underlying ts=some (.slice e))(hTe:TyOk P e te)(hby:te.bytes≤1000)(hsz:te.size≠0)(ty:TypeId){V:Value} {n:Nat} {xs:List Value} (hown:w.ownsRow n0 e te.size V n xs)
 {b o2 len2 c2:Nat} {m2:List Value} (hm2:m2.length=len2*te.size) (hc2:∀j u,m2[j]? =some u→w.cell? ⟨b,o2+j,none⟩=some u) (h1:∀u∈m2,u.oneCell'=true) (hlim:n+len2≤100000) (hl0:len2≠0) (hn0:n0≤w.heap.size):
 ∃g c cur w',(Builtin.append_ #[ts,ts] ty #[V,.slice (some ⟨b,o2,none⟩) len2 c2]).run P w= .ok (.slice (some ⟨g,0,none⟩) (n+len2) c) w'∧n0≤g∧g<w'.heap.size∧(some g=V.ownBlock∨g=w.heap.size)∧n+len2≤c∧c≤maxLen∧
  w'.heap[g]? =some (.cells cur e (0,0))∧cur.size=c*te.size∧cur.toList.take ((n+len2)*te.size)=xs++m2∧w.grownBy w' V.ownBlock:=by
 obtain⟨info,hi1,hi2,hi3⟩:=hTe.info;obtain⟨info',desc,z,q1,q2,q3,q4,q5,q6,q7,_⟩:=hTe.ex;rw [hi1] at q1;injection q1 with q1
 subst q1;have hzs:z.cells.size=te.size:=by rw [←Array.length_toList,←(q7 (fun _=>none)).len,hTe.zlen]
 obtain⟨v',w',r1,r2,r3,r4,r5⟩:=run_append_own_at (P:=P) w n0 ts ty e info z te.size te.bytes hd hi1 q6 hi2 hi3 hzs (by omega) V n xs hown ⟨b,o2,none⟩ len2 c2 m2 hm2 (fun j u hu=>by rw [add_eq];exact hc2 j u hu) h1 (by unfold maxLen;omega) (by
  have:(n+len2)*te.bytes≤100000*1000:=Nat.mul_le_mul hlim hby;omega) hn0
 rcases r2.2 with⟨e1,e2⟩|⟨g,c,cur,rfl,hbg,hg,hnc,hcm,hcs,htk⟩
 · omega
 · refine⟨g,c,cur,w',r1,hbg,(Array.getElem?_eq_some_iff.1 hg).1,?_,hnc,hcm,hg,hcs,htk,r3⟩;simp only [Value.ownBlock] at r5;rcases r5 with r5|r5
   · exact .inl r5
   · exact .inr (by simpa using r5)
theorem Zj2 {ts tn e:Nat} {te:TI} (hd:P.underlying ts=some (.slice e))(hdn:P.underlying tn=some (.int .i64))(hTe:TyOk P e te)(hby:te.bytes=1)(hsz:te.size=1)(ty:TypeId){V:Value} {n:Nat} {xs:List Value} (hown:w.ownsRow n0 e te.size V n xs)
 {m:Nat} (hlim:n+m≤100000) (hl0:0<m) (hn0:n0≤w.heap.size):
 ∃g c cur w' z,(Builtin.append_ #[ts,tn] ty #[V,.int .i64 m]).run P w= .ok (.slice (some ⟨g,0,none⟩) (n+m) c) w'∧n0≤g∧g<w'.heap.size∧(some g=V.ownBlock∨g=w.heap.size)∧n+m≤c∧c≤maxLen∧
  w'.heap[g]? =some (.cells cur e (0,0))∧cur.size=c*te.size∧cur.toList.take ((n+m)*te.size)=xs++zeros [z] m∧w.grownBy w' V.ownBlock∧(∀ρ,LR ρ te.zero [z]):=by
 obtain⟨info,hi1,hi2,hi3⟩:=hTe.info;obtain⟨info',desc,z,q1,q2,q3,q4,q5,q6,q7,_⟩:=hTe.ex;rw [hi1] at q1;injection q1 with q1
 subst q1;have hzl:z.cells.toList.length=1:=by rw [←(q7 (fun _=>none)).len,hTe.zlen,hsz]
 obtain⟨zv,hzv⟩:∃zv,z.cells=#[zv]:=by
  match hz:z.cells.toList,hzl with
  |[zv],_=>exact⟨zv,by apply Array.ext';rw [hz]⟩
 have hone:zv.oneCell'=true:=by
  have:=q7 (fun _=>none);rw [hzv] at this;exact LR.one' this zv (by simp)
 rw [hsz] at hown;obtain⟨v',w',r1,r2,r3,r5⟩:=Ztq (P:=P) w n0 ts tn ty e info z zv hd hdn hi1 q6 (hi2.trans hsz) (hi3.trans hby) hzv hone V n xs hown m hl0 hlim hn0;have hrep:List.replicate m zv=zeros [zv] m:=by
  clear r1 r2 r3 hlim hl0;induction m with
  |zero=>rfl
  |succ m ih=>rw [List.replicate_succ,zeros,ih];rfl
 rcases r2.2 with⟨e1,e2⟩|⟨g,c,cur,rfl,hbg,hg,hnc,hcm,hcs,htk⟩
 · omega
 · refine⟨g,c,cur,w',zv,r1,hbg,(Array.getElem?_eq_some_iff.1 hg).1,(by
    simp only [Value.ownBlock] at r5;rcases r5 with r5|r5
    · exact .inl r5
    · exact .inr (by simpa using r5)),hnc,hcm,hg,by rw [hsz];exact hcs,by rw [hsz,htk,hrep],r3,fun ρ=> ?_⟩
   have:=q7 ρ;rw [hzv] at this;exact this
theorem Zq9 (hE:∀t ti,E.ty t=some ti→TyOk P t ti)(ht:TR ρ t a)(hI:IV n0 w0 ρ nx h w)(hf:fr<nx)(hn:ρ fr=none){c:Call} (hc:c.callee= .builtin .append)(ho:o.op= .call c){ts tx:Nat} {s x:Operand} (hts:c.argTypes.toList=[ts,tx])(hss:c.args.toList=[s,x])
 {h':Hp} (hh:Zhe E fr t h ts tx s x=some (v,h')):Zax P n0 w0 ρ nx fr a o v h' w:=by
 unfold Zhe at hh;obtain⟨ti,h1,hh⟩:=Zc hh;obtain⟨tj,h1',hh⟩:=Zc hh;obtain⟨d,hd1,hd2⟩:=(hE _ _ h1).und;obtain⟨dn,hn1,hn2⟩:=(hE _ _ h1').und;split at hh
 case h_2=>cases hh
 rename_i e hk hk'
 rw [hk] at hd2;rw [hk'] at hn2;cases d<;>first|exact hd2.elim|skip
 cases dn<;>first|exact hn2.elim|skip
 have hd3:e=_:=hd2;subst hd3;have hn3:IntKind.i64=_:=hn2;subst hn3;obtain⟨te,h2,hh⟩:=Zc hh;have hTe:=hE _ _ h2;obtain⟨xv,h3,hh⟩:=Zc hh;split at hh
 case h_2=>cases hh
 rename_i m
 have hX:a.eval x= .int .i64 m:=Zh ht h3;split at hh
 case isFalse=>cases hh
 rename_i hlim
 have hats:c.argTypes=#[ts,tx]:=by apply Array.ext';simpa using hts
 have hargs:c.args.map a.eval=#[a.eval s,a.eval x]:=by apply Array.ext';simp [hss]
 have hexec:execOp a.eval o=(do let v←Builtin.append_ #[ts,tx] o.type #[a.eval s,a.eval x];pure (.value v)):=by
  unfold execOp;simp only [ho,resolve,hc,hargs,hats];rfl
 clear ho hc hts hss;split at hh
 · rename_i hs
   have hS:a.eval s= .slice none 0 0:=Zh ht hs;simp only [Option.some.injEq,Prod.mk.injEq] at hh;obtain⟨rfl,rfl⟩:=hh;obtain⟨g,c,cur,w',z,r1,r2,r3,r4,r5,r6,r7,r8,r9,r10,r11⟩:=Zj2 (n0:=n0) hd1 hn1 hTe hlim.1 hlim.2.1 o.type (World.ownsRow_nil w n0 e te.size) (by omega:0+m≤100000) hlim.2.2.1 hI.size;rw [Nat.zero_add] at r1 r5 r9;have hle:=Rho.put_le (x:=(g,c)) hn;have hg:g=w.heap.size:=by
    rcases r4 with r4|r4
    · simp [Value.ownBlock] at r4
    · exact r4
   refine ZcB (ρ':=ρ.put fr (g,c)) (w':=w') hexec ⟨g,c,0,Rho.put_self,by omega,fun _=>rfl,rfl⟩ (by rw [hS,hX];exact r1)
    (hI.grow hf hn (fun y hy=>hy) r10.os r10.tape r10.output r10.size (b0:=g) r2 r2 r3 (fun k hk hkg _=>r10.block k hk (by simp [Value.ownBlock])) (fun y hy b c' hb=>by have:=(hI.rng _ _ _ hb).2;omega)
     ⟨zeros [z] m,cur.toList.drop (m*te.size),(0,0),?_,((r11 ρ).zeros m).mono (VR.mono hle),by simp,?_,fun j _ hj=>by omega,fun _=>rfl,fun _=>r6⟩) hle (fun j hj=>Rho.put_ne hj)
   · rw [r7];congr 2
     rw [List.nil_append] at r9;rw [←r9,List.take_append_drop]
   · rw [List.nil_append] at r9;rw [←r9,List.take_append_drop,Array.length_toList,r8]
 · rename_i j off len cut hs
   obtain⟨b,cc,o',hb,hcc,ho',hS⟩:AR ρ (.c (.sl j off len cut)) (a.eval s):=Zh ht hs;split at hh
   case h_2=>cases hh
   rename_i l e' z' k hlk
   split at hh
   case isFalse=>cases hh
   rename_i hcond
   simp only [ZdX,Option.some.injEq,Prod.mk.injEq] at hh;obtain⟨rfl,rfl⟩:=hh;obtain⟨k1,k2,k3,k4,k5,k6,k7⟩:=hcond;subst k2 k3 k6 k7;have heo:o'=0:=ho' (.inr rfl);subst heo;obtain⟨b4,c4,q1,m0,rest,fz,q2,q3,q4,q5,q6,q7,q8⟩:=hI.ob _ (ZaS hlk);simp only at q1;rw [q1] at hb;injection hb with hb
   injection hb with hb hb'
   subst hb hb';have hfz:=q7 k1;subst hfz;have hml0:m0.length=len*te.size:=by rw [←q3.len,k4]
   have hcm:c4≤maxLen:=by
    by_cases hk1:k=1
    · exact q8 hk1
    · have hr:=q4 (by omega);subst hr;rw [List.append_nil,hml0] at q5;have:c4=len:=(Nat.eq_of_mul_eq_mul_right (by omega) q5).symm;unfold maxLen;omega
   have hown:w.ownsRow n0 e' te.size (.slice (some ⟨b4,0,none⟩) len (c4 - 0)) len m0:=by
    refine⟨hml0,.inr ⟨b4,c4,(m0++rest).toArray,rfl,(hI.rng _ _ _ q1).1,q2,by omega,hcm,by simpa using q5,?_⟩⟩;rw [←hml0];simp
   obtain⟨g,c,cur,w',z,r1,r2,r3,r4,r5,r6,r7,r8,r9,r10,r11⟩:=Zj2 (n0:=n0) hd1 hn1 hTe hlim.1 hlim.2.1 o.type hown k5 hlim.2.2.1 hI.size;have hob:Value.ownBlock (.slice (some ⟨b4,0,none⟩) len (c4 - 0))=some b4:=rfl;rw [hob] at r4 r10;have hle:=Rho.put_le (x:=(g,c)) hn;refine ZcB (ρ':=ρ.put fr (g,c)) (w':=w') hexec ⟨g,c,0,Rho.put_self,by omega,fun _=>rfl,rfl⟩ (by rw [hS,hX];exact r1)
    (hI.grow hf hn (fun y hy=>(ZdS hy).1) r10.os r10.tape r10.output r10.size (b0:=b4) (hI.rng _ _ _ q1).1 r2 r3 (fun k hk _ hk2=>r10.block k hk (by simpa using hk2)) ?_
     ⟨m0++zeros [z] m,cur.toList.drop ((len+m)*te.size),(0,0),?_,(q3.app ((r11 ρ).zeros m)).mono (VR.mono hle),by simp,?_,fun j _ hj=>by omega,fun _=>rfl,fun _=>r6⟩) hle (fun j hj=>Rho.put_ne hj)
   · intro y hy b' c' hb';obtain⟨y1,y2⟩:=ZdS hy;have hne:=hI.inj y y1 _ (ZaS hlk) y2 _ _ _ _ hb' q1;refine⟨?_,hne⟩;rcases r4 with r4|r4
     · injection r4 with r4;rw [r4];exact hne
     · have:=(hI.rng _ _ _ hb').2;omega
   · rw [r7];congr 2
     rw [←r9,List.take_append_drop]
   · rw [←r9,List.take_append_drop,Array.length_toList,r8]
 · cases hh
theorem Zra (hE:∀t ti,E.ty t=some ti→TyOk P t ti)(hG:GOk E n0 w0)(ht:TR ρ t a)(hI:IV n0 w0 ρ nx h w)(hf:fr<nx)(hn:ρ fr=none){c:Call} (hc:c.callee= .builtin .append)(ho:o.op= .call c){h':Hp} (hh:eff E fr t h o.op=some (v,h')):
 Zax P n0 w0 ρ nx fr a o v h' w:=by
 rw [ho] at hh;simp only [eff,Zfs,hc] at hh;split at hh
 case h_2=>cases hh
 rename_i ts tx s x hts hss
 split at hh
 case isFalse=>exact Zq9 hE ht hI hf hn hc ho hts hss hh
 rename_i hte
 subst hte;obtain⟨ti,h1,hh⟩:=Zc hh;obtain⟨d,hd1,hd2⟩:=(hE _ _ h1).und;split at hh
 case h_2=>cases hh
 rename_i e hk
 rw [hk] at hd2;cases d<;>first|exact hd2.elim|skip
 have hd3:e=_:=hd2;subst hd3;obtain⟨te,h2,hh⟩:=Zc hh;have hTe:=hE _ _ h2;split at hh
 case isFalse=>cases hh
 rename_i hlim
 have hats:c.argTypes=#[ts,ts]:=by apply Array.ext';simpa using hts
 have hargs:c.args.map a.eval=#[a.eval s,a.eval x]:=by apply Array.ext';simp [hss]
 have hexec:execOp a.eval o=(do let v←Builtin.append_ #[ts,ts] o.type #[a.eval s,a.eval x];pure (.value v)):=by
  unfold execOp;simp only [ho,resolve,hc,hargs,hats];rfl
 clear ho hc hts hss;obtain⟨info,hi1,hi2,hi3⟩:=hTe.info;split at hh
 ·
   rename_i hs hx
   have hS:a.eval s= .slice none 0 0:=Zh ht hs;have hX:a.eval x= .slice none 0 0:=Zh ht hx;simp only [Option.some.injEq,Prod.mk.injEq] at hh;obtain⟨rfl,rfl⟩:=hh;refine ZbX hexec rfl ?_ hI;simp [hS,hX,Builtin.append_,run_und hd1,sizeOf,run_ti hi1,Builtin.lenOf,Builtin.firstCells]
 · rename_i i off len cut hs hx
   obtain⟨b,cc,o',hb,hcc,ho',hS⟩:AR ρ (.c (.sl i off len cut)) (a.eval s):=Zh ht hs;have hX:a.eval x= .slice none 0 0:=Zh ht hx;simp only [Option.some.injEq,Prod.mk.injEq] at hh;obtain⟨rfl,rfl⟩:=hh;refine ZbX (V:= .slice (some ⟨b,o',none⟩) len (cc - cut)) hexec ⟨b,cc,o',hb,hcc,ho',rfl⟩ ?_ hI;have:len≤cc - cut:=by omega
   simp [hS,hX,Builtin.append_,run_und hd1,sizeOf,run_ti hi1,Builtin.lenOf,Builtin.firstCells,this,storeCells]
 · rename_i i off len cut hs hx
   have hS:a.eval s= .slice none 0 0:=Zh ht hs;obtain⟨b,cc,o',hb,hcc,ho',hX⟩:AR ρ (.c (.sl i off len cut)) (a.eval x):=Zh ht hx;split at hh
   · rename_i hz
     subst hz;simp only [Option.some.injEq,Prod.mk.injEq] at hh;obtain⟨rfl,rfl⟩:=hh;refine ZbX hexec rfl ?_ hI;simp [hS,hX,Builtin.append_,run_und hd1,sizeOf,run_ti hi1,Builtin.lenOf,Builtin.firstCells,loadCells,loadCellsFrom]
   · rename_i hz
     split at hh
     case isFalse=>cases hh
     rename_i hmax
     obtain⟨l,h3,hh⟩:=Zc hh;simp only [Option.some.injEq,Prod.mk.injEq] at hh;obtain⟨rfl,rfl⟩:=hh;have heo:o'=off:=ho' (.inl hz);subst heo;obtain⟨b2,o2,m,e2,hml,hl,hcell⟩:=Zdi (x:= .c (.p i o')) hG hI ⟨b,cc,hb,rfl⟩ h3;injection e2 with e2
     injection e2 with e2
     injection e2 with e2 e3
     subst e2 e3;obtain⟨g,c,cur,w',r1,r2,r3,r4,r5,r6,r7,r8,r9,r10⟩:=Zj1 (n0:=n0) (c2:=cc - cut) hd1 hTe hlim.1 hlim.2 o.type (World.ownsRow_nil w n0 e te.size) hml hcell (LR.one' hl) (by omega) hz hI.size;rw [Nat.zero_add] at r1 r5 r9;have hg:g=w.heap.size:=by
      rcases r4 with r4|r4
      · simp [Value.ownBlock] at r4
      · exact r4
     have hle:=Rho.put_le (x:=(g,c)) hn;refine ZcB (ρ':=ρ.put fr (g,c)) (w':=w') hexec ⟨g,c,0,Rho.put_self,by omega,fun _=>rfl,rfl⟩ (by rw [hS,hX];exact r1)
      (hI.grow hf hn (fun y hy=>hy) r10.os r10.tape r10.output r10.size (b0:=g) r2 r2 r3 (fun k hk hkg _=>r10.block k hk (by simp [Value.ownBlock])) (fun y hy b c' hb=>by have:=(hI.rng _ _ _ hb).2;omega)
       ⟨m,cur.toList.drop (len*te.size),(0,0),?_,hl.mono (VR.mono hle),by simp,?_,fun j _ hj=>by omega,fun _=>rfl,fun _=>r6⟩) hle (fun j hj=>Rho.put_ne hj)
     · rw [r7];congr 2
       rw [List.nil_append] at r9;rw [←r9,List.take_append_drop]
     · rw [List.nil_append] at r9;rw [←r9,List.take_append_drop,Array.length_toList,r8]
 · rename_i j off len cut i o2 len2 cut2 hs hx
   obtain⟨b,cc,o',hb,hcc,ho',hS⟩:AR ρ (.c (.sl j off len cut)) (a.eval s):=Zh ht hs;obtain⟨b2,cc2,o2',hb2,hcc2,ho2',hX⟩:AR ρ (.c (.sl i o2 len2 cut2)) (a.eval x):=Zh ht hx;split at hh
   · rename_i hz
     subst hz;simp only [Option.some.injEq,Prod.mk.injEq] at hh;obtain⟨rfl,rfl⟩:=hh;refine ZbX (V:= .slice (some ⟨b,o',none⟩) len (cc - cut)) hexec ⟨b,cc,o',hb,hcc,ho',rfl⟩ ?_ hI;have:len≤cc - cut:=by omega
     simp [hS,hX,Builtin.append_,run_und hd1,sizeOf,run_ti hi1,Builtin.lenOf,Builtin.firstCells,this,storeCells,loadCells,loadCellsFrom]
   · rename_i hz
     obtain⟨l2,h3,hh⟩:=Zc hh;split at hh
     case h_2=>cases hh
     rename_i l e' z k hlk
     split at hh
     case isFalse=>cases hh
     rename_i hcond
     simp only [ZdX,Option.some.injEq,Prod.mk.injEq] at hh;obtain⟨rfl,rfl⟩:=hh;obtain⟨k1,k2,k3,k4,k5,k6,k7⟩:=hcond;subst k2 k3 k6 k7;have heo:o2'=o2:=ho2' (.inl hz);subst heo;have heo:o'=0:=ho' (.inr rfl);subst heo;obtain⟨b3,o3,m2,e2,hml,hl2,hcell⟩:=Zdi (x:= .c (.p i o2')) hG hI ⟨b2,cc2,hb2,rfl⟩ h3;injection e2 with e2
     injection e2 with e2
     injection e2 with e2 e3
     subst e2 e3;obtain⟨b4,c4,q1,m,rest,fz,q2,q3,q4,q5,q6,q7,q8⟩:=hI.ob _ (ZaS hlk);simp only at q1;rw [q1] at hb;injection hb with hb
     injection hb with hb hb'
     subst hb hb';have hfz:=q7 k1;subst hfz;have hml0:m.length=len*te.size:=by rw [←q3.len,k4]
     have hcm:c4≤maxLen:=by
      by_cases hk1:k=1
      · exact q8 hk1
      · have hr:=q4 (by omega);subst hr;rw [List.append_nil,hml0] at q5;have:c4=len:=(Nat.eq_of_mul_eq_mul_right (Nat.pos_of_ne_zero hlim.2) q5).symm;unfold maxLen;omega
     have hown:w.ownsRow n0 e' te.size (.slice (some ⟨b4,0,none⟩) len (c4 - 0)) len m:=by
      refine⟨hml0,.inr ⟨b4,c4,(m++rest).toArray,rfl,(hI.rng _ _ _ q1).1,q2,by omega,hcm,by simpa using q5,?_⟩⟩;rw [←hml0];simp
     obtain⟨g,c,cur,w',r1,r2,r3,r4,r5,r6,r7,r8,r9,r10⟩:=Zj1 (n0:=n0) (c2:=cc2 - cut2) hd1 hTe hlim.1 hlim.2 o.type hown hml hcell (LR.one' hl2) k5 hz hI.size;have hob:Value.ownBlock (.slice (some ⟨b4,0,none⟩) len (c4 - 0))=some b4:=rfl;rw [hob] at r4 r10;have hle:=Rho.put_le (x:=(g,c)) hn;refine ZcB (ρ':=ρ.put fr (g,c)) (w':=w') hexec ⟨g,c,0,Rho.put_self,by omega,fun _=>rfl,rfl⟩ (by rw [hS,hX];exact r1)
      (hI.grow hf hn (fun y hy=>(ZdS hy).1) r10.os r10.tape r10.output r10.size (b0:=b4) (hI.rng _ _ _ q1).1 r2 r3 (fun k hk _ hk2=>r10.block k hk (by simpa using hk2)) ?_
       ⟨m++m2,cur.toList.drop ((len+len2)*te.size),(0,0),?_,(q3.app hl2).mono (VR.mono hle),by simp,?_,fun j _ hj=>by omega,fun _=>rfl,fun _=>r6⟩) hle (fun j hj=>Rho.put_ne hj)
     · intro y hy b' c' hb';obtain⟨y1,y2⟩:=ZdS hy;have hne:=hI.inj y y1 _ (ZaS hlk) y2 _ _ _ _ hb' q1;refine⟨?_,hne⟩;rcases r4 with r4|r4
       · injection r4 with r4;rw [r4];exact hne
       · have:=(hI.rng _ _ _ hb').2;omega
     · rw [r7];congr 2
       rw [←r9,List.take_append_drop]
     · rw [←r9,List.take_append_drop,Array.length_toList,r8]
 · cases hh
end
end Ev
namespace Ev
section
variable {P:Program} {E:Env} {n0:Nat} {w0 w:World} {ρ:Rho} {nx fr:Nat} {h:Hp} {t:List AV} {a:Act} {o:Oper} {v:AV}
theorem Zl0:∀{l:List Cl} {r:List UInt8} {m:List Value},ofBytes l=some r→LR ρ l m→m=(r.map fun u=>(u.toNat:Int)).map (Value.int .u8)
 |[],r,m,h,hl=>by
  simp only [ofBytes,Option.some.injEq] at h;subst h
  match m,hl with
  |[],_=>rfl
 |c::l,r,m,h,hl=>by
  unfold ofBytes at h;split at h
  · rename_i heq;cases heq
  · rename_i n l' heq
    injection heq with e1 e2
    subst e1 e2;split at h
    · rename_i hn
      obtain⟨r',h1,h⟩:=Zc h;injection h with h;subst h
      match m,hl with
      |x::m,hl=>
       have e:=Zl0 h1 hl.2;have e0:x= .int .u8 (Int.ofNat n):=hl.1;subst e0;rw [e];simp only [List.map_cons];congr 2
       simp;omega
    · cases h
  · cases h
theorem ZmD:∀(r acc:List UInt8),(r.map fun u=>(u.toNat:Int)).foldl (fun s n=>s.push (UInt8.ofNat n.toNat)) (Bs acc)=Bs (acc++r)
 |[],acc=>by simp
 |u::r,acc=>by
  simp only [List.map_cons,List.foldl_cons];have e:(Bs acc).push (UInt8.ofNat ((u.toNat:Int)).toNat)=Bs (acc++[u]):=by
   simp [Bs,ByteArray.push]
  rw [e,ZmD r (acc++[u])];simp
theorem Zkb:∀l:List UInt8,LR ρ (ZgS l) (l.map fun b=>Value.int .u8 b.toNat)
 |[]=>trivial
 |_::l=>⟨rfl,Zkb l⟩
theorem ZtA (e:TypeId)(l:List UInt8)(w:World):∃(rest:List Value) (w':World) (cap:Nat),(Conv.stringToBytes e (Bs l)).run P w= .ok (.slice (some ⟨w.heap.size,0,none⟩) l.length cap) w'∧l.length≤cap∧True∧
 w'.os=w.os∧w'.tape=w.tape∧w'.output=w.output∧w'.heap.size=w.heap.size+1∧(∀k,k<w.heap.size→w'.heap[k]? =w.heap[k]?)∧
 w'.heap[w.heap.size]? =some (.cells ((l.map fun b=>Value.int .u8 b.toNat)++rest).toArray e (cap,cap+1))∧((l.map fun b=>Value.int .u8 b.toNat)++rest).length=cap:=by
 obtain⟨cap,hcap⟩:∃cap,cap=(Question.appendCap (Bs l).size 0 e).cut (w.tape w.drawn (.appendCap (Bs l).size 0 e)):=⟨_,rfl⟩
 have hge:l.length≤cap:=by
  rw [hcap];simp [Question.cut,Zbs]
 obtain⟨rest,hrest⟩:∃rest,rest=List.replicate (cap - l.length) (Value.int .u8 0):=⟨_,rfl⟩
 have hlen:((l.map fun b=>Value.int .u8 b.toNat)++rest).length=cap:=by rw [hrest];simp;omega
 obtain⟨W1,hW1⟩:∃W1,W1=(({w with drawn:=w.drawn+1}:World).alloc (.cells ((l.map fun b=>Value.int .u8 b.toNat)++rest).toArray e)):=⟨_,rfl⟩
 have h1:W1.heap[w.heap.size]? =some (.cells ((l.map fun b=>Value.int .u8 b.toNat)++rest).toArray e (0,0)):=by
  rw [hW1];exact Zfj ({w with drawn:=w.drawn+1}:World) _
 have h2:∀k,k<w.heap.size→W1.heap[k]? =w.heap[k]?:=fun k hk=>by
  rw [hW1];exact alloc_old ({w with drawn:=w.drawn+1}:World) _ hk
 have h3:W1.heap.size=w.heap.size+1:=by rw [hW1];simp
 have hfz:∀k,(W1.freeze ⟨w.heap.size,cap,none⟩ 1).heap[k]? =if k=w.heap.size then some (.cells ((l.map fun b=>Value.int .u8 b.toNat)++rest).toArray e (cap,cap+1)) else W1.heap[k]?:=by
  intro k;unfold World.freeze;simp only [Nat.one_ne_zero,if_false,Array.getElem?_modify];by_cases hk:w.heap.size=k
  · subst hk;rw [if_pos rfl,if_pos rfl,h1];rfl
  · rw [if_neg hk,if_neg (fun e=>hk e.symm)]
 refine⟨rest,W1.freeze ⟨w.heap.size,cap,none⟩ 1,cap,?_,hge,trivial,?_,?_,?_,?_,?_,?_,hlen⟩
 · have hch:(choose (.appendCap (Bs l).size 0 e)).run P w= .ok cap {w with drawn:=w.drawn+1}:=by
    rw [hcap];simp [choose,Sem.run,Question.forced]
   have hsh:W1.shape? w.heap.size=some (e,cap):=by
    unfold World.shape?;rw [h1];simp only [List.size_toArray,hlen]
   have harr:((Bs l).data.map (fun b=>Value.int .u8 b.toNat)++Array.replicate (cap - (Bs l).size) (Value.int .u8 0))=((l.map fun b=>Value.int .u8 b.toNat)++rest).toArray:=by
    rw [hrest];apply Array.ext'
    simp [Bs,ByteArray.size]
   simp only [Conv.stringToBytes,Sem.run_bind,hch,Result.andThen_ok,harr,ZdE];show((markStringish ⟨w.heap.size,0,none⟩).run P (({w with drawn:=w.drawn+1}:World).alloc _)).andThen _=_
   rw [←hW1];have hmark:(markStringish ⟨w.heap.size,0,none⟩).run P W1= .ok () (W1.freeze ⟨w.heap.size,cap,none⟩ 1):=by
    simp [markStringish,shape,freeze,Sem.run,hsh]
   rw [hmark];simp only [Result.andThen_ok,Sem.run_pure,Zbs]
 · unfold World.freeze;rw [hW1];rfl
 · unfold World.freeze;rw [hW1];rfl
 · unfold World.freeze;rw [hW1];rfl
 · unfold World.freeze;simp only [Nat.one_ne_zero,if_false,Array.size_modify];exact h3
 · intro k hk;rw [hfz,if_neg (by omega),h2 k hk]
 · rw [hfz,if_pos rfl]
theorem Zrd (hE:∀t ti,E.ty t=some ti→TyOk P t ti)(hG:GOk E n0 w0)(ht:TR ρ t a)(hI:IV n0 w0 ρ nx h w)(hf:fr<nx)(hn:ρ fr=none){s d:Nat} {x:Operand} (ho:o.op= .convert s d x){h':Hp} (hh:eff E fr t h o.op=some (v,h')):
 Zax P n0 w0 ρ nx fr a o v h' w:=by
 rw [ho] at hh;simp only [eff,ZkA] at hh;obtain⟨ts,h1,hh⟩:=Zc hh;obtain⟨td,h2,hh⟩:=Zc hh;obtain⟨ds,hs1,hs2⟩:=(hE _ _ h1).und;obtain⟨dd,hd1,hd2⟩:=(hE _ _ h2).und;have hexec:execOp a.eval o=(do let v←convert s d (a.eval x);pure (.value v)):=by
  unfold execOp;simp only [ho]
 split at hh
 · rename_i e e1 e2 hx
   rw [e1] at hs2;rw [e2] at hd2;cases ds<;>first|exact hs2.elim|skip
   cases dd<;>first|exact hd2.elim|skip
   have hs3:e=_:=hs2;subst hs3;have hX:a.eval x= .slice none 0 0:=Zh ht hx;obtain⟨te,h3,hh⟩:=Zc hh;obtain⟨de,he1,he2⟩:=(hE _ _ h3).und;split at hh
   · rename_i hk
     rw [hk] at he2;cases de<;>first|exact he2.elim|skip
     have he3:IntKind.u8=_:=he2;subst he3;simp only [Option.some.injEq,Prod.mk.injEq] at hh;obtain⟨rfl,rfl⟩:=hh;exact ZbX hexec rfl (by simp [convert,run_und hs1,run_und hd1,run_und he1,hX,Conv.bytesToString,Bs];rfl) hI
   · cases hh
 · rename_i e i off len cut e1 e2 hx
   rw [e1] at hs2;rw [e2] at hd2;cases ds<;>first|exact hs2.elim|skip
   cases dd<;>first|exact hd2.elim|skip
   have hs3:e=_:=hs2;subst hs3;obtain⟨b,cc,o',hb,hcc,ho',hX⟩:AR ρ (.c (.sl i off len cut)) (a.eval x):=Zh ht hx;obtain⟨te,h3,hh⟩:=Zc hh;obtain⟨de,he1,he2⟩:=(hE _ _ h3).und;split at hh
   · rename_i hk hsz
     rw [hk] at he2;cases de<;>first|exact he2.elim|skip
     have he3:IntKind.u8=_:=he2;subst he3;obtain⟨l,h4,hh⟩:=Zc hh;obtain⟨r,h5,hh⟩:=Zc hh;simp only [Option.some.injEq,Prod.mk.injEq] at hh;obtain⟨rfl,rfl⟩:=hh;obtain⟨b2,o2,m,e2,hml,hl,hcell⟩:=Zdi (x:= .c (.p i off)) (X:= .pointer (some ⟨b,off,none⟩)) hG hI ⟨b,cc,hb,rfl⟩ h4;injection e2 with e2
     injection e2 with e2
     injection e2 with e2 e3
     subst e2 e3;have hm:=Zl0 h5 hl;have hload:(loadCells ⟨b,o',none⟩ len).run P w= .ok ((r.map fun u=>(u.toNat:Int)).map (Value.int .u8)).toArray w:=by
      by_cases hz:len=0
      · subst hz;have:m=[]:=List.eq_nil_of_length_eq_zero hml;rw [this] at hm;rw [←hm];rfl
      · rw [ho' (.inl hz),←hm,←hml];exact ZmQ b off m w hcell
     have hr:=run_bytesToString w ⟨b,o',none⟩ len (cc - cut) (r.map fun u=>(u.toNat:Int)) hload;have hp:=ZmD r [];rw [List.nil_append] at hp;have he:ByteArray.empty=Bs []:=rfl;rw [he,hp] at hr;refine ZbX hexec rfl ?_ hI;simp only [convert,Sem.run_bind,run_und hs1,run_und hd1,Result.andThen_ok,hX,run_und he1];exact hr
   · cases hh
 · rename_i e l e1 e2 hx
   rw [e1] at hs2;rw [e2] at hd2;cases ds<;>first|exact hs2.elim|skip
   cases dd<;>first|exact hd2.elim|skip
   have hd3:e=_:=hd2;subst hd3;have hX:a.eval x= .string (Bs l):=Zh ht hx;obtain⟨te,h3,hh⟩:=Zc hh;obtain⟨de,he1,he2⟩:=(hE _ _ h3).und;split at hh
   · rename_i hk hsz
     rw [hk] at he2;cases de<;>first|exact he2.elim|skip
     have he3:IntKind.u8=_:=he2;subst he3;split at hh
     · rename_i hlen
       simp only [Option.some.injEq,Prod.mk.injEq] at hh;obtain⟨rfl,rfl⟩:=hh;obtain⟨arr,w',cap,r1,r2,r3,r4,r5,r6,r7,r8,r9,r10⟩:=ZtA (P:=P) e l w;have hle:=Rho.put_le (x:=(w.heap.size,cap)) hn;refine ZcB (ρ':=ρ.put fr (w.heap.size,cap)) (w':=w') hexec ⟨w.heap.size,cap,0,Rho.put_self,by omega,fun _=>rfl,rfl⟩ ?_
        (hI.grow (b0:=w.heap.size) hf hn (fun y hy=>hy) r4 r5 r6 (by omega) hI.size hI.size (by omega) (fun k hk _ _=>r8 k hk) (fun y hy b c' hb=>by have:=(hI.rng _ _ _ hb).2;omega)
         ⟨l.map fun b=>Value.int .u8 b.toNat,arr,_,r9,Zkb l,by simp,by rw [r10];omega,fun j hj hh=>by simp only [r10] at hj hh;omega,by simp,by simp⟩) hle (fun j hj=>Rho.put_ne hj)
       simp only [convert,Sem.run_bind,run_und hs1,run_und hd1,Result.andThen_ok,hX,run_und he1];exact r1
     · cases hh
   · cases hh
 · cases hh
end
end Ev
end Go.Proofs.YtlfinljfghhpdaaGreatDoor
