/- Lemmas for a statement on the tops; conditions: as each says. -/
import Derived.Test.YtjilfbhkdjanhaaGreatDoorM39
set_option linter.all false
set_option maxRecDepth 100000
set_option maxHeartbeats 4000000
open Go.Proofs.Tryz
namespace Go.Proofs.YtjilfbhkdjanhaaGreatDoor
open Go Go.RowKit
namespace Ev
def aw23:ToldOk (tAw 119):=ZU (L:=[tAw 188]) (Za aw22<|ZL) ZP 100000 _ _ _ rfl rfl (by decide+kernel)
def aw24:ToldOk (tAw 120):=ZU (L:=[tAw 188]) (Za aw22<|ZL) ZP 100000 _ _ _ rfl rfl (by decide+kernel)
def aw26:ToldOk (tAw 122):=ZU (L:=[tAw 188]) (Za aw22<|ZL) ZP 100000 _ _ _ rfl rfl (by decide+kernel)
def aw25:ToldOk (tAw 121):=ZU (L:=[tAw 188]) (Za aw22<|ZL) ZP 100000 _ _ _ rfl rfl (by decide+kernel)
end Ev
namespace Ev
def sgT(c:Int)(r:List UInt8):Told:=⟨230,[.c (.i .i64 c),.c (.i .u8 176),.c (.i .u8 161)],.c (.s r)⟩
def sg4:ToldOk (sgT 4 [234,176,128]):=ZU (L:=[]) ZL ZP 100000 _ _ _ rfl rfl (by decide+kernel)
def sg5:ToldOk (sgT 5 [236,140,176]):=ZU (L:=[]) ZL ZP 100000 _ _ _ rfl rfl (by decide+kernel)
def dE_a:ToldOk (dE 4 [97,176] 1):=ZU (L:=[]) ZL ZP 100000 _ _ _ rfl rfl (by decide+kernel)
def sg6:ToldOk (sgT 6 []):=ZU (L:=[]) ZL ZP 100000 _ _ _ rfl rfl (by decide+kernel)
def fS(ps:List Int)(a b:UInt8):List Int:=if a=176/\b=161 then ps else []
def fS_len{ps:List Int}(h:(Zd ps).length<=8):∀a b,(Zd (fS ps a b)).length<=8:=λa b=>by
 unfold fS;split
 ·exact h
 ·exact Nat.zero_le _
def Zg9(c:Nat)(I:4<=c/\c<=6)(ps:List Int)(r:List UInt8)(e:Zd ps=r)(N:r.length<=8)(hs:ToldOk (sgT c r))(l:List UInt8)(C:l.length<=100000)
 (L:∀(k:Nat) (a b:UInt8),l[k]?=some a->l[k+1]?=some b->128<=a.toNat->a=176/\b=161) (w:World) (j:Gl w):
 Calls prog 91 #[.int .i64 c,.string (B l)] w (Z6 (Zr (fS ps) l 0) w):=
 ZkG c I l w j.grd _ λwx hb=>ZkO c (fS ps) (fS_len (by rw[e];exact N)) l C wx (j.grd.below hb) λk a b J u D wy q=>by
  obtain⟨rfl,rfl⟩:=L k a b J u D;have U:fS ps 176 161=ps:=if_pos ⟨rfl,rfl⟩;rw[U,e];refine(hs wy ((j.below hb).below q) (λ_=>none) [_,_,_] ⟨rfl,rfl,rfl,trivial⟩).mono ?_;rintro e w' ⟨V,rfl,y,hb⟩;have O:V=.string (B r):=y λ_=>none;exact⟨by rw[O],hb⟩
def at_97(k:Nat)(a b:UInt8)(q:([97,176,161]:List UInt8)[k]?=some a)(j:([97,176,161]:List UInt8)[k+1]?=some b)(u:128<=a.toNat):a=176/\b=161:=by
 match k with
 |0=>obtain rfl:97=a:=Option.some.inj q;exact absurd u (by decide)
 |1=>exact⟨(Option.some.inj q).symm,(Option.some.inj j).symm⟩
 |k+2=>cases j
def ZiA(k:Nat)(a b:UInt8)(q:([176,161]:List UInt8)[k]?=some a)(j:([176,161]:List UInt8)[k+1]?=some b)(_:128<=a.toNat):a=176/\b=161:=by
 match k with
 |0=>exact⟨(Option.some.inj q).symm,(Option.some.inj j).symm⟩
 |k+1=>cases j
def dT_a:ToldOk (dT 4 [97,176,161] [97,234,176,128]):=dT_w 4 _ _ _ (Zg9 4 (by decide) [44032] _ (by decide+kernel) (by decide) sg4 _ (by decide) at_97) (by simp only[Zr,fS];decide+kernel)
def dT_b:ToldOk (dT 4 [176,161] [234,176,128]):=dT_w 4 _ _ _ (Zg9 4 (by decide) [44032] _ (by decide+kernel) (by decide) sg4 _ (by decide) ZiA) (by simp only[Zr,fS];decide+kernel)
def dT_c:ToldOk (dT 5 [176,161] [236,140,176]):=dT_w 5 _ _ _ (Zg9 5 (by decide) [49968] _ (by decide+kernel) (by decide) sg5 _ (by decide) ZiA) (by simp only[Zr,fS];decide+kernel)
def dE_b:ToldOk (dE 6 [176,161] 0):=λw u ρ A C=>by
 obtain⟨x,y,rfl,q,j⟩:=PW.two C;obtain rfl:x=.int .i64 6:=q;obtain rfl:y=.string (B [176,161]):=j;have h:=Zg9 6 (by decide) [] [] rfl (by decide) sg6 [176,161] (by decide) ZiA w u;rw[show Zr (fS []) [176,161] 0=.inr 0 by simp only[Zr,fS];rfl] at h;exact h.mono λe w' ⟨he,hb⟩=>⟨_,he,λσ=>⟨[_,_],rfl,rfl,⟨[_,_],rfl,rfl,rfl,trivial⟩,trivial⟩,hb⟩
def aw09:ToldOk (tAw 181):=ZU (L:=[tAw 179,tAw 253,tAw 254,tAw 255,tAw 256,dT 4 [97,176,161] [97,234,176,128],dE 4 [97,176] 1])
 (Za aw02<|Za aw05<|Za aw06<|Za aw07<|Za aw08<|Za dT_a<|Za dE_a<|ZL) ZP 100000 _ _ _ rfl rfl (by decide+kernel)
def cnt_ex:cnt false 5936=4651:=by decide+kernel
def aw10:ToldOk (tAw 113):=ZU (L:=[tAw 181,dT 1 [193,194] [208,176,208,177],dT 4 [176,161] [234,176,128],dT 5 [176,161] [236,140,176],dT 1 [176,161] [226,149,159,226,149,145],dT 2 [176,161] [226,149,159,226,149,145],dT 3 [176,161] [226,150,145,208,177],dT 0 [176,161] [194,176,194,161],dE 6 [176,161] 0,rT 44032 0 true,rT 49968 4651 false])
 (Za aw09<|Za (Ze2 1 (by decide) _ _ (by decide) (by decide+kernel))<|Za dT_b<|Za dT_c<|Za (Ze2 1 (by decide) _ _ (by decide) (by decide+kernel))<|Za (Ze2 2 (by decide) _ _ (by decide) (by decide+kernel))<|Za (Ze2 3 (by decide) _ _ (by decide) (by decide+kernel))<|Za (Ze2 0 (by decide) _ _ (by decide) (by decide+kernel))<|Za dE_b<|Za (ZjS 0 (by decide) 0 true _ rfl (by decide+kernel) rfl)<|Za (ZjS 5936 (by decide) 4651 false _ rfl (by decide+kernel) cnt_ex)<|ZL) ZP 100000 _ _ _ rfl rfl (by decide+kernel)
end Ev
