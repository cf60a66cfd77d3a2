/- Lemmas for TopVersions; conditions: as each says. -/
import Derived.Test.YtlhllehffkoloaaGreatDoorM36
set_option linter.unusedVariables false
set_option linter.unusedSimpArgs false
set_option maxRecDepth 100000
set_option maxHeartbeats 4000000
namespace Go.Proofs.YtlhllehffkoloaaGreatDoor
open Go Go.RowKit
namespace Ev
theorem aw23:ToldOk (tAw 162):=Zad (L:=[tAw 236]) (Za aw22<|Z5) Zaa 100000 _ _ _ rfl rfl (by decide+kernel)
theorem aw24:ToldOk (tAw 163):=Zad (L:=[tAw 236]) (Za aw22<|Z5) Zaa 100000 _ _ _ rfl rfl (by decide+kernel)
theorem aw26:ToldOk (tAw 165):=Zad (L:=[tAw 236]) (Za aw22<|Z5) Zaa 100000 _ _ _ rfl rfl (by decide+kernel)
theorem aw25:ToldOk (tAw 164):=Zad (L:=[tAw 236]) (Za aw22<|Z5) Zaa 100000 _ _ _ rfl rfl (by decide+kernel)
end Ev
theorem Zfx (c:Nat)(hc:4≤c∧c≤6)(l:List UInt8):Z9 c l=Zu (sg2 c) l 0:=by
 unfold Z9;rw [if_neg (by omega),if_pos (by omega)]
theorem Zr8:Z9 4 [176,161]= .inl [44032]:=by
 rw [Zfx 4 (by decide)];simp only [Zu,Zhg];rfl
theorem Ztq:ZaE 45217=49968:=by decide+kernel
theorem Zr9:Z9 5 [176,161]= .inl [49968]:=by
 have e:sg2 5 176 161=[49968]:=by
  unfold sg2;rw [if_neg (by decide),if_pos rfl];have h:(if ZaE 45217=0 then [] else [ZaE 45217])=([49968]:List Int):=by rw [Ztq];rfl
  exact h
 rw [Zfx 5 (by decide)];simp only [Zu,e];rfl
theorem Zsa:Z9 6 [176,161]= .inr 0:=by
 have e:sg2 6 176 161=[]:=by
  have e:sg2 6 176 161=ZaJ 176 161:=by unfold sg2;rw [if_neg (by decide),if_neg (by decide)];rfl
  rw [e,Zlg]
 rw [Zfx 6 (by decide)];simp only [Zu,e];rfl
namespace Ev
theorem aw09:ToldOk (tAw 230):=Zad (L:=[tAw 229,tAw 286,tAw 287,tAw 288,tAw 289,dT 4 [97,176,161] [97,234,176,128],dE 4 [97,176] 1])
 (Za aw02<|Za aw05<|Za aw06<|Za aw07<|Za aw08<|Za (Zc4 4 (by decide) _ _ (by decide) (by rw [ZlH];decide+kernel))<|Za (dE_ok 4 (by decide) _ 1 (by decide) ZlI)<|Z5) Zaa 100000 _ _ _ rfl rfl (by decide+kernel)
def rT (p:Int)(i:Int)(b:Bool):Told:=⟨341,[.c (.i .i32 p)],.t [.c (.i .i64 i),.c (.b b),.c (.b true)]⟩
theorem rT_ok (n:Nat)(hn:n<11172)(i:Nat)(b:Bool)(p:Int)(hp:p=44032+(n:Int))(hb:Z4 n=b)(hi:cnt b n=i):ToldOk (rT p i b):=fun w hg ρ A hA=>by
 obtain⟨x,rfl,hx⟩:=PW.one hA;have e1:x= .int .i32 p:=hx;subst e1 hp;have h:=ZhP n hn w;rw [hb,hi] at h;exact h.mono fun e w' ⟨he,hb⟩=>⟨_,he,fun σ=>⟨[_,_,_],rfl,rfl,rfl,rfl,trivial⟩,hb⟩
theorem cnt_ex:cnt false 5936=4651:=by decide+kernel
theorem aw10:ToldOk (tAw 157):=Zad (L:=[tAw 230,dT 1 [193,194] [208,176,208,177],dT 4 [176,161] [234,176,128],dT 5 [176,161] [236,140,176],dT 1 [176,161] [226,149,159,226,149,145],dT 2 [176,161] [226,149,159,226,149,145],dT 3 [176,161] [226,150,145,208,177],dT 0 [176,161] [194,176,194,161],dE 6 [176,161] 0,rT 44032 0 true,rT 49968 4651 false])
 (Za aw09<|Za (Zc4 1 (by decide) _ _ (by decide) (by rw [ZeL 1 (by decide)];decide+kernel))<|Za (Zc4 4 (by decide) _ _ (by decide) (by rw [Zr8];decide+kernel))<|Za (Zc4 5 (by decide) _ _ (by decide) (by rw [Zr9];decide+kernel))<|Za (Zc4 1 (by decide) _ _ (by decide) (by rw [ZeL 1 (by decide)];decide+kernel))<|Za (Zc4 2 (by decide) _ _ (by decide) (by rw [ZeL 2 (by decide)];decide+kernel))<|Za (Zc4 3 (by decide) _ _ (by decide) (by rw [ZeL 3 (by decide)];decide+kernel))<|Za (Zc4 0 (by decide) _ _ (by decide) (by rw [ZeL 0 (by decide)];decide+kernel))<|Za (dE_ok 6 (by decide) _ 0 (by decide) Zsa)<|Za (rT_ok 0 (by decide) 0 true _ rfl ZeT.1 rfl)<|Za (rT_ok 5936 (by decide) 4651 false _ rfl (by decide+kernel) cnt_ex)<|Z5) Zaa 100000 _ _ _ rfl rfl (by decide+kernel)
end Ev
end Go.Proofs.YtlhllehffkoloaaGreatDoor
