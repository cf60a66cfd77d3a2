/- Lemmas for a statement on the tops; conditions: as each says. -/
import Derived.Test.YtlglfmbccihopaaGreatDoorM39
set_option linter.unusedVariables false
set_option linter.unusedSimpArgs false
set_option maxRecDepth 100000
set_option maxHeartbeats 4000000
namespace Go.Proofs.YtlglfmbccihopaaGreatDoor
open Go Go.RowKit
namespace Ev
theorem aw23:ToldOk (tAw 139):=ZR (L:=[tAw 221]) (Za aw22<|ZM) ZP 100000 _ _ _ rfl rfl (by decide+kernel)
theorem aw24:ToldOk (tAw 140):=ZR (L:=[tAw 221]) (Za aw22<|ZM) ZP 100000 _ _ _ rfl rfl (by decide+kernel)
theorem aw26:ToldOk (tAw 142):=ZR (L:=[tAw 221]) (Za aw22<|ZM) ZP 100000 _ _ _ rfl rfl (by decide+kernel)
theorem aw25:ToldOk (tAw 141):=ZR (L:=[tAw 221]) (Za aw22<|ZM) ZP 100000 _ _ _ rfl rfl (by decide+kernel)
end Ev
theorem ZdJ:ZF 0=true∧cnt true 0=0:=by decide+kernel
theorem Zhi:ZS 176 161 44032:=by
 unfold ZS;rw [if_neg (by decide),if_neg (by decide),if_neg (by decide)];unfold ZaX;rw [if_neg (by decide),if_pos (by decide)];exact .inr ⟨by decide,.inl ⟨0,by decide,ZdJ.1,ZdJ.2,rfl⟩⟩
theorem Zga:sg2 4 176 161=[44032]:=by
 have h:ZbY 176 161=44032:=Znp Zhi;unfold sg2;rw [if_pos rfl,h,if_pos ⟨by decide,by decide⟩]
theorem Zei (c:Nat)(hc:4≤c∧c≤6)(l:List UInt8):ZC c l=Zj (sg2 c) l 0:=by
 unfold ZC;rw [if_neg (by omega),if_pos (by omega)]
theorem Zkm:ZC 4 [97,176,161]= .inl [97,44032]:=by
 rw [Zei 4 (by decide)];simp only [Zj,Zga];rfl
theorem Zkn:ZC 4 [97,176]= .inr 1:=by
 rw [Zei 4 (by decide)];simp only [Zj];rfl
theorem Zqq:ZC 4 [176,161]= .inl [44032]:=by
 rw [Zei 4 (by decide)];simp only [Zj,Zga];rfl
theorem Zrj:Z6 45217=49968:=by decide+kernel
theorem Zqr:ZC 5 [176,161]= .inl [49968]:=by
 have e:sg2 5 176 161=[49968]:=by
  unfold sg2;rw [if_neg (by decide),if_pos rfl];have h:(if Z6 45217=0 then [] else [Z6 45217])=([49968]:List Int):=by rw [Zrj];rfl
  exact h
 rw [Zei 5 (by decide)];simp only [Zj,e];rfl
theorem ZjV:Zbe 176 161=[]:=by decide+kernel
theorem Zqs:ZC 6 [176,161]= .inr 0:=by
 have e:sg2 6 176 161=[]:=by
  have e:sg2 6 176 161=Zbe 176 161:=by unfold sg2;rw [if_neg (by decide),if_neg (by decide)];rfl
  rw [e,ZjV]
 rw [Zei 6 (by decide)];simp only [Zj,e];rfl
namespace Ev
theorem aw09:ToldOk (tAw 212):=ZR (L:=[tAw 211,tAw 276,tAw 277,tAw 278,tAw 279,dT 4 [97,176,161] [97,234,176,128],dE 4 [97,176] 1])
 (Za aw02<|Za aw05<|Za aw06<|Za aw07<|Za aw08<|Za (Zcq 4 (by decide) _ _ (by decide) (by rw [Zkm];decide+kernel))<|Za (dE_ok 4 (by decide) _ 1 (by decide) Zkn)<|ZM) ZP 100000 _ _ _ rfl rfl (by decide+kernel)
def rT (p:Int)(i:Int)(b:Bool):Told:=⟨338,[.c (.i .i32 p)],.t [.c (.i .i64 i),.c (.b b),.c (.b true)]⟩
theorem rT_ok (n:Nat)(hn:n<11172)(i:Nat)(b:Bool)(p:Int)(hp:p=44032+(n:Int))(hb:ZF n=b)(hi:cnt b n=i):ToldOk (rT p i b):=fun w hg ρ A hA=>by
 obtain⟨x,rfl,hx⟩:=PW.one hA;have e1:x= .int .i32 p:=hx;subst e1 hp;have h:=Ze7 n hn w;rw [hb,hi] at h;exact h.mono fun e w' ⟨he,hb⟩=>⟨_,he,fun σ=>⟨[_,_,_],rfl,rfl,rfl,rfl,trivial⟩,hb⟩
theorem cnt_ex:cnt false 5936=4651:=by decide+kernel
theorem aw10:ToldOk (tAw 133):=ZR (L:=[tAw 212,dT 1 [193,194] [208,176,208,177],dT 4 [176,161] [234,176,128],dT 5 [176,161] [236,140,176],dT 1 [176,161] [226,149,159,226,149,145],dT 2 [176,161] [226,149,159,226,149,145],dT 3 [176,161] [226,150,145,208,177],dT 0 [176,161] [194,176,194,161],dE 6 [176,161] 0,rT 44032 0 true,rT 49968 4651 false])
 (Za aw09<|Za (Zcq 1 (by decide) _ _ (by decide) (by rw [Zdz 1 (by decide)];decide+kernel))<|Za (Zcq 4 (by decide) _ _ (by decide) (by rw [Zqq];decide+kernel))<|Za (Zcq 5 (by decide) _ _ (by decide) (by rw [Zqr];decide+kernel))<|Za (Zcq 1 (by decide) _ _ (by decide) (by rw [Zdz 1 (by decide)];decide+kernel))<|Za (Zcq 2 (by decide) _ _ (by decide) (by rw [Zdz 2 (by decide)];decide+kernel))<|Za (Zcq 3 (by decide) _ _ (by decide) (by rw [Zdz 3 (by decide)];decide+kernel))<|Za (Zcq 0 (by decide) _ _ (by decide) (by rw [Zdz 0 (by decide)];decide+kernel))<|Za (dE_ok 6 (by decide) _ 0 (by decide) Zqs)<|Za (rT_ok 0 (by decide) 0 true _ rfl ZdJ.1 rfl)<|Za (rT_ok 5936 (by decide) 4651 false _ rfl (by decide+kernel) cnt_ex)<|ZM) ZP 100000 _ _ _ rfl rfl (by decide+kernel)
end Ev
end Go.Proofs.YtlglfmbccihopaaGreatDoor
