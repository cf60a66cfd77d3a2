/- Lemmas for a statement on the tops; conditions: as each says. -/
import Derived.Test.YtlfinljfghhpdaaGreatDoorM41
set_option linter.unusedVariables false
set_option linter.unusedSimpArgs false
set_option maxRecDepth 100000
set_option maxHeartbeats 4000000
namespace Go.Proofs.YtlfinljfghhpdaaGreatDoor
open Go Go.RowKit
namespace Ev
theorem aw23:ToldOk (tAw 105):=ZO (L:=[tAw 192]) (Za aw22<|ZK) ZL 100000 _ _ _ rfl rfl (by decide+kernel)
theorem aw24:ToldOk (tAw 106):=ZO (L:=[tAw 192]) (Za aw22<|ZK) ZL 100000 _ _ _ rfl rfl (by decide+kernel)
theorem aw26:ToldOk (tAw 108):=ZO (L:=[tAw 192]) (Za aw22<|ZK) ZL 100000 _ _ _ rfl rfl (by decide+kernel)
theorem aw25:ToldOk (tAw 107):=ZO (L:=[tAw 192]) (Za aw22<|ZK) ZL 100000 _ _ _ rfl rfl (by decide+kernel)
end Ev
namespace Ev
def sgT (c:Int)(r:List UInt8):Told:=⟨237,[.c (.i .i64 c),.c (.i .u8 176),.c (.i .u8 161)],.c (.s r)⟩
theorem sg4:ToldOk (sgT 4 [234,176,128]):=ZO (L:=[]) ZK ZL 100000 _ _ _ rfl rfl (by decide+kernel)
theorem sg5:ToldOk (sgT 5 [236,140,176]):=ZO (L:=[]) ZK ZL 100000 _ _ _ rfl rfl (by decide+kernel)
theorem dE_a:ToldOk (dE 4 [97,176] 1):=ZO (L:=[]) ZK ZL 100000 _ _ _ rfl rfl (by decide+kernel)
theorem sg6:ToldOk (sgT 6 []):=ZO (L:=[]) ZK ZL 100000 _ _ _ rfl rfl (by decide+kernel)
def fS (ps:List Int)(a b:UInt8):List Int:=if a=176∧b=161 then ps else []
theorem fS_len {ps:List Int} (h:(Zb ps).length≤8):∀a b,(Zb (fS ps a b)).length≤8:=fun a b=>by
 unfold fS;split
 · exact h
 · exact Nat.zero_le _
theorem Zfn (c:Nat)(hc:4≤c∧c≤6)(ps:List Int)(r:List UInt8)(e:Zb ps=r)(h8:r.length≤8)(hs:ToldOk (sgT c r))(l:List UInt8)(hl:l.length≤100000)
 (hL:∀(k:Nat) (a b:UInt8),l[k]? =some a→l[k+1]? =some b→128≤a.toNat→a=176∧b=161) (w:World) (hg:Gl w):
 Calls Tryz.prog 84 #[.int .i64 c,.string (B l)] w (Zaq (Zk (fS ps) l 0) w):=
 Zja c hc l w hg.grd _ fun wx hb=>Zjj c (fS ps) (fS_len (by rw [e];exact h8)) l hl wx (hg.grd.below hb) fun k a b ha hb' hk wy hby=>by
  obtain⟨rfl,rfl⟩:=hL k a b ha hb' hk;have e2:fS ps 176 161=ps:=if_pos ⟨rfl,rfl⟩;rw [e2,e];refine(hs wy ((hg.below hb).below hby) (fun _=>none) [_,_,_] ⟨rfl,rfl,rfl,trivial⟩).mono ?_;rintro e w' ⟨V,rfl,hv,hb⟩;have e3:V= .string (B r):=hv fun _=>none;exact⟨by rw [e3],hb⟩
theorem at_97 (k:Nat)(a b:UInt8)(h1:([97,176,161]:List UInt8)[k]? =some a)(h2:([97,176,161]:List UInt8)[k+1]? =some b)(h3:128≤a.toNat):a=176∧b=161:=by
 match k with
 |0=>obtain rfl:97=a:=Option.some.inj h1;exact absurd h3 (by decide)
 |1=>exact⟨(Option.some.inj h1).symm,(Option.some.inj h2).symm⟩
 |k+2=>cases h2
theorem ZgQ (k:Nat)(a b:UInt8)(h1:([176,161]:List UInt8)[k]? =some a)(h2:([176,161]:List UInt8)[k+1]? =some b)(_:128≤a.toNat):a=176∧b=161:=by
 match k with
 |0=>exact⟨(Option.some.inj h1).symm,(Option.some.inj h2).symm⟩
 |k+1=>cases h2
theorem dT_a:ToldOk (dT 4 [97,176,161] [97,234,176,128]):=dT_w 4 _ _ _ (Zfn 4 (by decide) [44032] _ (by decide+kernel) (by decide) sg4 _ (by decide) at_97) (by simp only [Zk,fS];decide+kernel)
theorem dT_b:ToldOk (dT 4 [176,161] [234,176,128]):=dT_w 4 _ _ _ (Zfn 4 (by decide) [44032] _ (by decide+kernel) (by decide) sg4 _ (by decide) ZgQ) (by simp only [Zk,fS];decide+kernel)
theorem dT_c:ToldOk (dT 5 [176,161] [236,140,176]):=dT_w 5 _ _ _ (Zfn 5 (by decide) [49968] _ (by decide+kernel) (by decide) sg5 _ (by decide) ZgQ) (by simp only [Zk,fS];decide+kernel)
theorem dE_b:ToldOk (dE 6 [176,161] 0):=fun w hg ρ A hA=>by
 obtain⟨x,y,rfl,hx,hy⟩:=PW.two hA;obtain rfl:x= .int .i64 6:=hx;obtain rfl:y= .string (B [176,161]):=hy;have h:=Zfn 6 (by decide) [] [] rfl (by decide) sg6 [176,161] (by decide) ZgQ w hg;rw [show Zk (fS []) [176,161] 0= .inr 0 by simp only [Zk,fS];rfl] at h;exact h.mono fun e w' ⟨he,hb⟩=>⟨_,he,fun σ=>⟨[_,_],rfl,rfl,⟨[_,_],rfl,rfl,rfl,trivial⟩,trivial⟩,hb⟩
theorem aw09:ToldOk (tAw 182):=ZO (L:=[tAw 180,tAw 263,tAw 264,tAw 265,tAw 266,dT 4 [97,176,161] [97,234,176,128],dE 4 [97,176] 1])
 (Za aw02<|Za aw05<|Za aw06<|Za aw07<|Za aw08<|Za dT_a<|Za dE_a<|ZK) ZL 100000 _ _ _ rfl rfl (by decide+kernel)
theorem cnt_ex:cnt false 5936=4651:=by decide+kernel
theorem aw10:ToldOk (tAw 99):=ZO (L:=[tAw 182,dT 1 [193,194] [208,176,208,177],dT 4 [176,161] [234,176,128],dT 5 [176,161] [236,140,176],dT 1 [176,161] [226,149,159,226,149,145],dT 2 [176,161] [226,149,159,226,149,145],dT 3 [176,161] [226,150,145,208,177],dT 0 [176,161] [194,176,194,161],dE 6 [176,161] 0,rT 44032 0 true,rT 49968 4651 false])
 (Za aw09<|Za (ZdQ 1 (by decide) _ _ (by decide) (by decide+kernel))<|Za dT_b<|Za dT_c<|Za (ZdQ 1 (by decide) _ _ (by decide) (by decide+kernel))<|Za (ZdQ 2 (by decide) _ _ (by decide) (by decide+kernel))<|Za (ZdQ 3 (by decide) _ _ (by decide) (by decide+kernel))<|Za (ZdQ 0 (by decide) _ _ (by decide) (by decide+kernel))<|Za dE_b<|Za (Zib 0 (by decide) 0 true _ rfl (by decide+kernel) rfl)<|Za (Zib 5936 (by decide) 4651 false _ rfl (by decide+kernel) cnt_ex)<|ZK) ZL 100000 _ _ _ rfl rfl (by decide+kernel)
end Ev
end Go.Proofs.YtlfinljfghhpdaaGreatDoor
