/- Lemmas for a statement on the tops; conditions: as each says. -/
import Derived.Deep.RegionHeld3
import Derived.Maps.OwnOps
import Derived.Maps.OwnSet
import Derived.Maps.Views
import Derived.DeepKeys4
import Derived.Test.YtjilfbhkdjanhaaGreatDoorM19
set_option linter.all false
set_option maxRecDepth 100000
set_option maxHeartbeats 4000000
open Go.Proofs.Tryz
namespace Go.Proofs.YtjilfbhkdjanhaaGreatDoor
open Go Go.RowKit
def Zja{x y:Int}(j:0<=y)(q:y<16)(u:0<=x)(C:x<134217728):bits .or .i32 (x*16) y=x*16+y:=
 bits_join .i32 31 (by decide) (λn h0 D=>by simp[IntKind.wrap,IntKind.bits,IntKind.signed];omega) 4 (x*16) y (by omega) (by omega) (by omega) j q (by omega)
def Zh6(b:Int)(hb: -1000<=b/\b<=1000)(w:World):
 Calls prog 345 #[.int .i64 b] w λe w'=>e=.returned (.int .i64 (Zam b))/\w=w':=by
 have h0:=hb.1;have j:=hb.2;go_enter func345,ntmps345
 go_wp2
 all_goals go_ret
 all_goals refine⟨ZaH ?_,rfl⟩
 all_goals unfold Zam
 all_goals repeat' split
 all_goals omega
def Hex(s:ByteArray)(ps:List Int):Prop:=s.data.toList=Zc8 ps/\Zlr ps
def Hex.size{s:ByteArray}{ps:List Int}(h:Hex s ps):s.size=5*ps.length:=by
 rw[<-Znb,<-h.1];simp
def Hex.digit{s:ByteArray}{ps:List Int}(h:Hex s ps){k j m:Nat}(q:m=5*k)(y:k<ps.length)(C:j<5)(D:m+j<s.size):(Zcb (ps.getD k 0))[j]?=some s[m+j]:=by
 subst q;rw[<-Zna ps k j y C,<-h.1];have u:5*k+j<s.data.toList.length:=by simpa using D
 rw[List.getElem?_eq_getElem u];rfl
def ZgK(d:Int)(c:UInt8)(hd:0<=d/\d<16)(j:c=Zc7 d)(w:World):
 Calls prog 60 #[.string ⟨#[48,49,50,51,52,53,54,55,56,57,65,66,67,68,69,70]⟩,.int .u8 (c.toNat:Int)] w λe w'=>e=.returned (.int .i64 d)/\w=w':=by
 refine(strings_IndexByte _ _ w).mono ?_;rintro e w' ⟨rfl,rfl⟩;refine⟨ZaH ?_,rfl⟩;have q:((c.toNat:Int)).toNat.toUInt8=c:=ZbN rfl;rw[q,j];exact Zm9 hd.1 hd.2
def At_out(s:ByteArray)(ps:List Int)(h:Hex s ps)(k:Int)(y:k<0\/ps.length<=k)(hs:s.size<=100000)(u: -100000<=k/\k<=100000)(w:World):
 Calls prog 353 #[.string s,.int .i64 k] w λe w'=>e=.returned (.tuple #[.int .i32 0,.bool false])/\Below w.heap.size w w':=by
 have q:=h.size;have j:(s.size:Int) / 5=ps.length:=by omega
 by_cases h0:k<0
 ·go_enter func353,ntmps353
  go_wp2_with fail
  go_ret2
  exact⟨rfl,Below.refl _ _⟩
 ·have C:(s.size:Int) / 5<=k:=by omega
  clear j;go_enter func353,ntmps353
  go_wp2_with fail
  go_ret2
  exact⟨rfl,Below.refl _ _⟩
def At_in(s:ByteArray)(ps:List Int)(h:Hex s ps)(k:Nat)(D:k<ps.length)(hs:s.size<=100000)(w:World):
 Calls prog 353 #[.string s,.int .i64 k] w λe w'=>e=.returned (.tuple #[.int .i32 (ps.getD k 0),.bool true])/\Below w.heap.size w w':=by
 have ad:=h.size;have hp:=h.2 _ (Zeq D);have I:=h.digit (j:=0) (m:=5*k) rfl D (by omega) (by omega);have d1:=h.digit (j:=1) (m:=5*k) rfl D (by omega) (by omega);have d2:=h.digit (j:=2) (m:=5*k) rfl D (by omega) (by omega);have d3:=h.digit (j:=3) (m:=5*k) rfl D (by omega) (by omega);generalize ps.getD k 0=p at*;obtain⟨O,N,L,J⟩:=Zl5 hp;simp[Zcb] at I d1 d2 d3;have C:=λw=>ZgK (p / 4096) s[5*k] O I.symm w;have y:=λw=>ZgK (p / 256 % 16) s[5*k+1] N d1.symm w;have u:=λw=>ZgK (p / 16 % 16) s[5*k+2] L d2.symm w;have q:=λw=>ZgK (p % 16) s[5*k+3] J d3.symm w;obtain⟨ab,aa⟩:=O;obtain⟨Z,Y⟩:=N;obtain⟨X,W⟩:=L;obtain⟨V,U⟩:=J;have ai:¬(s.size:Int) / 5<=k:=by omega
 have ah:(k:Int)*5=5*(k:Int):=by omega
 have af:5*k+3<s.size:=by omega
 have am:(5*(k:Int)+1).toNat=5*k+1:=by omega
 have ak:(5*(k:Int)+1+1).toNat=5*k+2:=by omega
 have aj:(5*(k:Int)+1+1+1).toNat=5*k+3:=by omega
 clear I d1 d2 d3 h;go_enter func353,ntmps353
 go_wp2_with fail
 refine wp_loop_rounds 5 ?_;rw[rounds_succ];go_wp2_with (first|(go_at_call 60;first|(refine(C _).mono ?_;clear C;rintro e w' ⟨rfl,rfl⟩)|(refine(y _).mono ?_;clear y;rintro e w' ⟨rfl,rfl⟩)|(refine(u _).mono ?_;clear u;rintro e w' ⟨rfl,rfl⟩)|(refine(q _).mono ?_;clear q;rintro e w' ⟨rfl,rfl⟩)))
 rw[rounds_succ];go_wp2_with (first|(go_at_call 60;first|(refine(C _).mono ?_;clear C;rintro e w' ⟨rfl,rfl⟩)|(refine(y _).mono ?_;clear y;rintro e w' ⟨rfl,rfl⟩)|(refine(u _).mono ?_;clear u;rintro e w' ⟨rfl,rfl⟩)|(refine(q _).mono ?_;clear q;rintro e w' ⟨rfl,rfl⟩)))
 rw[rounds_succ];go_wp2_with (first|(go_at_call 60;first|(refine(C _).mono ?_;clear C;rintro e w' ⟨rfl,rfl⟩)|(refine(y _).mono ?_;clear y;rintro e w' ⟨rfl,rfl⟩)|(refine(u _).mono ?_;clear u;rintro e w' ⟨rfl,rfl⟩)|(refine(q _).mono ?_;clear q;rintro e w' ⟨rfl,rfl⟩)))
 rw[rounds_succ];go_wp2_with (first|(go_at_call 60;first|(refine(C _).mono ?_;clear C;rintro e w' ⟨rfl,rfl⟩)|(refine(y _).mono ?_;clear y;rintro e w' ⟨rfl,rfl⟩)|(refine(u _).mono ?_;clear u;rintro e w' ⟨rfl,rfl⟩)|(refine(q _).mono ?_;clear q;rintro e w' ⟨rfl,rfl⟩)))
 rw[rounds_succ];go_wp2_with fail
 go_ret2
 refine⟨?_,Below.refl _ _⟩;have e:∀x:Int,x=p->Ending.returned (.tuple #[.int .i32 x,.bool true])=.returned (.tuple #[.int .i32 p,.bool true]):=λx hx=>by rw[hx]
 refine e _ ?_;have f1:wrap32 ((p / 4096*16+p / 256 % 16)*16)=p / 256*16:=by unfold wrap32;omega
 have f2:wrap32 ((p / 256*16+p / 16 % 16)*16)=p / 16*16:=by unfold wrap32;omega
 rw[Zja (by omega) (by omega) (by omega) (by omega),f1,Zja (by omega) (by omega) (by omega) (by omega),f2,Zja (by omega) (by omega) (by omega) (by omega)];omega
def sB(n:Nat):ByteArray:=⟨(Zc8 (SP.getD n (0,0,[])).2.2).toArray⟩
def lit(n:Nat)(d:Array UInt8)(h:Zc9 d.toList (SP.getD n (0,0,[])).2.2=true):ByteArray.mk d=sB n:=by
 have:=Znc _ _ h;unfold sB;rw[<-this]
def TW:List (Int×Int×Int):=[(98,202,772),(100,202,780),(163,234,772),(165,234,780)]
def ZhX:Value:=.agg #[.int .i64 98,.int .i32 202,.int .i32 772,.int .i64 100,.int .i32 202,.int .i32 780,.int .i64 163,.int .i32 234,.int .i32 772,.int .i64 165,.int .i32 234,.int .i32 780]
def Zj9:Value:=.agg #[.int .i64 136,.int .i64 86,.string (sB 0),.int .i64 136,.int .i64 99,.string (sB 1),.int .i64 136,.int .i64 101,.string (sB 2),.int .i64 136,.int .i64 117,.string (sB 3),.int .i64 136,.int .i64 161,.string (sB 4),.int .i64 136,.int .i64 164,.string (sB 5),.int .i64 136,.int .i64 166,.string (sB 6),.int .i64 161,.int .i64 64,.string (sB 7),.int .i64 163,.int .i64 64,.string (sB 8),.int .i64 164,.int .i64 64,.string (sB 9),.int .i64 165,.int .i64 64,.string (sB 10)]
def ZdS(n:Nat):Int:=(SP.getD n (0,0,[])).1
def ZbV(n:Nat):Int:=(SP.getD n (0,0,[])).2.1
def ZbU(n:Nat):List Int:=(SP.getD n (0,0,[])).2.2
def Zsr(w:World):Calls prog 325 #[] w λe w'=>e=.returned ZhX/\Below w.heap.size w w':=by
 go_enter func325,ntmps325
 go_wp2_with fail
 refine bodyPost_ret (v:=ZhX) (by simp[results,results325,go_sem,ZhX]) rfl ⟨rfl,(Below.refl _ w).alloc NL _⟩
def ZnG{ops:Array Oper}{rest:List Oper}{o:Oper}{a:Act}{w:World}{Q:Exit->Act->World->Prop}(y:o.guard=none)(t:TypeId)(j:Array (Nat×Operand))(v:Array Value)(u:o.op=.build t j)
 (q:prog.built t (j.map λ(i,x)=>(i,a.eval x)).toList=some v)
 (h:wpList prog ops Q rest (a.put o.dst (.agg v)) w):wpList prog ops Q (o::rest) a w:=
 wpList_build y t j u (by rw[q];rfl) (by rw[q];exact h)
def Zr4(w:World):Calls prog 342 #[] w λe w'=>e=.returned Zj9/\Below w.heap.size w w':=by
 refine calls_of_wp func342 rfl ?_;rw[lit 0]
 rotate_left
 kernel_rfl
 rw[lit 1]
 rotate_left
 kernel_rfl
 rw[lit 2]
 rotate_left
 kernel_rfl
 rw[lit 3]
 rotate_left
 kernel_rfl
 rw[lit 4]
 rotate_left
 kernel_rfl
 rw[lit 5]
 rotate_left
 kernel_rfl
 rw[lit 6]
 rotate_left
 kernel_rfl
 rw[lit 7]
 rotate_left
 kernel_rfl
 rw[lit 8]
 rotate_left
 kernel_rfl
 rw[lit 9]
 rotate_left
 kernel_rfl
 rw[lit 10]
 rotate_left
 kernel_rfl
 unfold Zj9;generalize sB 0=O;generalize sB 1=N;generalize sB 2=L;generalize sB 3=J;generalize sB 4=I;generalize sB 5=D;generalize sB 6=C;generalize sB 7=y;generalize sB 8=u;generalize sB 9=q;generalize sB 10=j;simp only[ntmps342,List.size_toArray,List.length_nil,Nat.reduceSub,Array.replicate_succ,Array.replicate_zero,List.push_toArray,List.append_toArray,List.nil_append,List.cons_append];go_wp2_with (first|(refine ZnG rfl 361 _ #[.int .i64 136,.int .i64 86,.string O,.int .i64 136,.int .i64 99,.string N,.int .i64 136,.int .i64 101,.string L,.int .i64 136,.int .i64 117,.string J,.int .i64 136,.int .i64 161,.string I,.int .i64 136,.int .i64 164,.string D,.int .i64 136,.int .i64 166,.string C,.int .i64 161,.int .i64 64,.string y,.int .i64 163,.int .i64 64,.string u,.int .i64 164,.int .i64 64,.string q,.int .i64 165,.int .i64 64,.string j] rfl (by kernel_rfl) ?_)|(refine wpList_store_row rfl 361 _ _ rfl w.heap.size #[.int .i64 136,.int .i64 86,.string O,.int .i64 136,.int .i64 99,.string N,.int .i64 136,.int .i64 101,.string L,.int .i64 136,.int .i64 117,.string J,.int .i64 136,.int .i64 161,.string I,.int .i64 136,.int .i64 164,.string D,.int .i64 136,.int .i64 166,.string C,.int .i64 161,.int .i64 64,.string y,.int .i64 163,.int .i64 64,.string u,.int .i64 164,.int .i64 64,.string q,.int .i64 165,.int .i64 64,.string j] rfl rfl _ _ (heap_alloc_new w _) (by kernel_rfl) (by rfl) (by simp[Value.oneCell']) ?_;rw[World.setRow_alloc_new]))
 refine bodyPost_ret (results_cell_row rfl _ _ w.heap.size _ _ _ _ rfl (heap_alloc_new w _) underlying361 rfl (by kernel_rfl)) rfl ⟨rfl,(Below.refl _ w).alloc NL _⟩
def lt11{k:Nat}(h:k<11):k=0\/k=1\/k=2\/k=3\/k=4\/k=5\/k=6\/k=7\/k=8\/k=9\/k=10:=by omega
def idx11{k:Nat}(j:k<11)(w:World):(Instr.index 361 Zj9 (.int .i64 k)).run prog w=.ok (.agg #[.int .i64 (ZdS k),.int .i64 (ZbV k),.string (sB k)]) w:=by
 rcases lt11 j with rfl|rfl|rfl|rfl|rfl|rfl|rfl|rfl|rfl|rfl|rfl
 all_goals kernel_rfl
def idx4{k:Nat}(q:k<4)(w:World):(Instr.index 348 ZhX (.int .i64 k)).run prog w=.ok (.agg #[.int .i64 (TW.getD k (0,0,0)).1,.int .i32 (TW.getD k (0,0,0)).2.1,.int .i32 (TW.getD k (0,0,0)).2.2]) w:=by
 have j:k=0\/k=1\/k=2\/k=3:=by omega
 rcases j with rfl|rfl|rfl|rfl
 all_goals rfl
def Zr2(V:Value):Prop:=∀k:Nat,k<11->∀w,(Instr.index 361 V (.int .i64 k)).run prog w=.ok (.agg #[.int .i64 (ZdS k),.int .i64 (ZbV k),.string (sB k)]) w
def TwosOf(V:Value):Prop:=∀k:Nat,k<4->∀w,(Instr.index 348 V (.int .i64 k)).run prog w=.ok (.agg #[.int .i64 (TW.getD k (0,0,0)).1,.int .i32 (TW.getD k (0,0,0)).2.1,.int .i32 (TW.getD k (0,0,0)).2.2]) w
def Zr3(w:World):Calls prog 342 #[] w λe w'=>∃V,e=.returned V/\Zr2 V/\Below w.heap.size w w':=
 (Zr4 w).mono λ_ _ h=>⟨_,h.1,λ_ j w=>idx11 j w,h.2⟩
def Zsq(w:World):Calls prog 325 #[] w λe w'=>∃V,e=.returned V/\TwosOf V/\Below w.heap.size w w':=
 (Zsr w).mono λ_ _ h=>⟨_,h.1,λ_ j w=>idx4 j w,h.2⟩
def ZpO(s:ByteArray)(ps:List Int)(h:Hex s ps)(k:Int)(hs:s.size<=100000)(j: -100000<=k/\k<=100000)(w:World):
 Calls prog 353 #[.string s,.int .i64 k] w λe w'=>e=.returned (.tuple #[.int .i32 (if 0<=k/\k<ps.length then ps.getD k.toNat 0 else 0),.bool (decide (0<=k/\k<ps.length))])/\Below w.heap.size w w':=by
 by_cases q:0<=k/\k<ps.length
 ·have:=At_in s ps h k.toNat (by omega) hs w;have e:((k.toNat:Nat):Int)=k:=by omega
  rw[e] at this;simp only[q,and_self,if_true,decide_true];exact this
 ·have:=At_out s ps h k (by omega) hs j w;simp only[if_neg q,decide_eq_false q];exact this
def Cell_b(b:Int)(hb: -1000<=b/\b<=1000)(w:World):
 Calls prog 345 #[.int .i64 b] w λe w'=>e=.returned (.int .i64 (Zam b))/\Below w.heap.size w w':=
 (Zh6 b hb w).mono λe w' h=>⟨h.1,by rw[<-h.2];exact Below.refl _ _⟩
def len11:∀k,k<11->(ZbU k).length<=157/\0<=ZdS k/\ZdS k<=255/\64<=ZbV k/\ZbV k<=254/\0<=Zam (ZbV k)/\Zam (ZbV k)+(ZbU k).length<=157:=by decide+kernel
def mem11{k:Nat}(h:k<11):SP.getD k (0,0,[])∈SP:=by
 rw[List.getD_eq_getElem?_getD,List.getElem?_eq_getElem (by simpa[SP] using h)];simp
def drop11{k:Nat}(h:k<11):SP.drop k=(ZdS k,ZbV k,ZbU k)::SP.drop (k+1):=by
 have j:k<SP.length:=by simpa[SP] using h
 rw[List.drop_eq_getElem_cons j];simp only[ZdS,ZbV,ZbU,List.getD_eq_getElem?_getD,List.getElem?_eq_getElem j,Option.getD_some]
def hex11{k:Nat}(h:k<11):Hex (sB k) (ZbU k)/\(sB k).size<=100000:=by
 have j:Hex (sB k) (ZbU k):=⟨by simp[sB,ZbU],λp q=>by have:=Zj7 (mem11 h) p q;omega⟩
 refine⟨j,?_⟩;have:=(len11 k h).1;rw[j.size];omega
def ZwC{k:Nat}(h:k<11){j:Nat}(q:j<(ZbU k).length):128<(ZbU k).getD j 0/\(ZbU k).getD j 0<=65535:=by
 have:=Zj7 (mem11 h) _ (ZmZ q);exact⟨this.1,this.2.1⟩
def Zvh{k:Nat}(h:k<11)(j c:Int):Zbf (SP.drop k) j c=if ZdS k=j/\0<=c - Zam (ZbV k)/\c - Zam (ZbV k)<(ZbU k).length then(ZbU k).getD (c - Zam (ZbV k)).toNat 0 else Zbf (SP.drop (k+1)) j c:=by
 rw[drop11 h];rfl
def Zav(j b:Int):Int:=if Zam b<0 then 0 else Zbf SP j (Zam b)
def Zvg(j c:Int):Zbf (SP.drop 11) j c=0:=rfl
def ZlT{w' j:World}{a:Addr}{v:Value}(h:w'.cell? a=some v)(hb:Below w'.heap.size w' j):j.cell? a=some v:=by
 rw[hb.cell (World.block_lt_of_cell? _ _ h),h]
def ZlZ{W w' j:World}{a0 u:Addr}{v0 q:Value}(h:w'.cell? a0=some v0/\w'.cell? u=some q/\Below W.heap.size W w')(hb:Below w'.heap.size w' j):
 j.cell? a0=some v0/\j.cell? u=some q/\Below W.heap.size W j:=
 ⟨ZlT h.1 hb,ZlT h.2.1 hb,h.2.2.trans (hb.mono h.2.2.size)⟩
def box3(w:World)(T:TypeId)(a b c:Value):(w.alloc (.cells #[a,b,c] T)).cell? ⟨w.heap.size,0,none⟩=some a/\(w.alloc (.cells #[a,b,c] T)).cell? ⟨w.heap.size,1,none⟩=some b/\(w.alloc (.cells #[a,b,c] T)).cell? ⟨w.heap.size,2,none⟩=some c:=by
 have q:=λj=>cell_of_row (w.alloc (.cells #[a,b,c] T)) w.heap.size j _ T (0,0) (heap_alloc_new w _);rw[q 0,q 1,q 2];exact⟨rfl,rfl,rfl⟩
def OneRel(j c:Int)(w0:World)(i:Value)(wr:World):Prop:=∃k:Nat,k<=11/\i=.int .i64 k/\Zbf SP j c=Zbf (SP.drop k) j c/\Below w0.heap.size w0 wr
def Zk9(q b:Int)(hl:0<=q/\q<=255)(hb:0<=b/\b<=255)(w:World):
 Calls prog 324 #[.int .i64 q,.int .i64 b] w λe w'=>e=.returned (.tuple #[.int .i32 (Zav q b),.bool (decide (Zav q b≠0))])/\Below w.heap.size w w':=by
 have hc:=ZsZ b;by_cases h0:Zam b<0
 ·have e:Zav q b=0:=if_pos h0;rw[e];go_enter func324,ntmps324
  go_wp2_with (first|(go_at_call 345;refine(Zh6 b (by omega) _).mono ?_;rintro e w1 ⟨rfl,rfl⟩))
  go_ret2
  exact⟨rfl,Below.refl _ _⟩
 ·have e:Zav q b=Zbf SP q (Zam b):=if_neg h0;rw[e];have af:=Zh6 b (by omega);generalize Zam b=c at*;clear e;go_enter func324,ntmps324
  go_wp2_with (first|(go_at_call 345;refine(af _).mono ?_;rintro e w1 ⟨rfl,rfl⟩)|(go_at_call 342;refine(Zr3 _).mono ?_;rintro e w1 ⟨V,rfl,hV,ah⟩))
  go_loopw [16] (λi wr=>OneRel q c w i wr) (λi _=>11 - (intOf i).toNat)
  case atStart=>exact⟨0,by omega,rfl,rfl,ah⟩
  case round=>
   obtain⟨k,hk,rfl,C,D⟩:=hrel;by_cases y:k<11
   ·have u:=QQ (Zvh y q c);obtain⟨hx,ac⟩:=hex11 y;obtain⟨l1,l2,l3,l4,l5,l6,l7⟩:=len11 k y;have Z:=λj=>@ZwC k y j;have hi:=hV k y;have X:=λw=>ZpO (sB k) (ZbU k) hx (c - Zam (ZbV k)) ac ⟨by omega,by omega⟩ w;have O:=λw=>Cell_b (ZbV k) ⟨by omega,by omega⟩ w;generalize ZdS k=L at*;generalize ZbV k=S at*;generalize ZbU k=ps at*;generalize sB k=s at*;generalize Zam S=d at*;clear hx;by_cases J:L=q
    ·subst J;go_wp2_with fail
     obtain⟨c0,c1,c2⟩:=box3 wr 360 (.int .i64 L) (.int .i64 S) (.string s);have U:=D.alloc D.size (.cells #[.int .i64 L,.int .i64 S,.string s] 360);generalize hW:wr.alloc (.cells #[.int .i64 L,.int .i64 S,.string s] 360)=W at*;clear hW D;have hw:IntKind.i64.wrap (c - d)=c - d:=IntWalk.i64_in _ (by omega);by_cases N:0<=c - d/\c - d<ps.length
     ·have ak:=(Z (c - d).toNat (by omega)).1;have I:=QQ (show Zbf SP L c=ps.getD (c - d).toNat 0 by rw[C,u.out,if_pos ⟨trivial,N⟩]);simp only[N,and_self,if_true,decide_true] at X;clear C u;go_region_held3 (λw'=>w'.cell? ⟨wr.heap.size,1,none⟩=some (.int .i64 S)/\w'.cell? ⟨wr.heap.size,2,none⟩=some (.string s)/\Below W.heap.size W w') (first|exact⟨c1,c2,(Below.refl _ _).drew⟩|exact ZlZ (by assumption) (by assumption)) (first|(go_at_call 345;refine MR (O _) λw3 Y=>?_)|(go_at_call 353;refine MR (X _) λw3 Y=>?_))
      rename_i hS
      have hB:=U.trans (hS.2.2.mono U.size);go_wp2_with fail
      go_ret2
      refine⟨?_,hB⟩;have ad:ps.getD (c - d).toNat 0≠0:=by omega
      show Ending.returned (.tuple #[.int .i32 (ps.getD (c - d).toNat 0),.bool true])=_
      rw[I.out,decide_eq_true ad]
     ·have I:=QQ (show Zbf SP L c=Zbf (SP.drop (k+1)) L c by rw[C,u.out,if_neg (λh=>N h.2)]);simp only[if_neg N,decide_eq_false N] at X;clear C u Z;go_region_held3 (λw'=>w'.cell? ⟨wr.heap.size,1,none⟩=some (.int .i64 S)/\w'.cell? ⟨wr.heap.size,2,none⟩=some (.string s)/\Below W.heap.size W w') (first|exact⟨c1,c2,(Below.refl _ _).drew⟩|exact ZlZ (by assumption) (by assumption)) (first|(go_at_call 345;refine MR (O _) λw3 Y=>?_)|(go_at_call 353;refine MR (X _) λw3 Y=>?_))
      rename_i hS
      have hB:=U.trans (hS.2.2.mono U.size);go_wp2_with fail
      go_roundw
      case rel=>exact⟨k+1,by omega,by go_num,I,hB⟩
      case measure=>simp[intOf];omega
    ·go_wp2_with fail
     go_roundw
     case rel=>exact⟨k+1,by omega,by go_num,by rw[C,u.out,if_neg (λh=>J h.1)],D.alloc D.size _⟩
     case measure=>simp[intOf];omega
   ·have ae:k=11:=by omega
    subst ae;have aa:=QQ (Zvg q c);clear y;go_wp2_with fail
    go_ret2
    rw[C,aa.out];exact⟨rfl,D⟩
def Zva{W:World}{b B:Nat}{p q:Int}{k:IntKind}(hb:b<B)(C:W.cell? ⟨b,1,none⟩=some (.int k p))(c2:W.cell? ⟨b,2,none⟩=some (.int k q)):Zaz W B k (some ⟨b,1,none⟩) [p,q]:=by
 refine⟨by simp,λ_=>⟨_,rfl,hb,λj u y=>?_⟩⟩
 match j,y with
 |0,y=>simp at y;rw[<-y];exact C
 |1,y=>simp at y;rw[<-y];exact c2
 |j+2,y=>simp at y
def Zb2:List (Int×Int×Int)->Int->Int->List Int
 |[],_,_=>[]
 |t::l,j,b=>if j=136/\b=t.1 then [t.2.1,t.2.2] else Zb2 l j b
def ZcW(j b:Int):List Int:=Zb2 TW j b
def tw1(k:Nat):Int:=(TW.getD k (0,0,0)).1
def tw2(k:Nat):Int:=(TW.getD k (0,0,0)).2.1
def tw3(k:Nat):Int:=(TW.getD k (0,0,0)).2.2
def Zxc:∀k,k<4->(98<=tw1 k/\tw1 k<=165)/\(202<=tw2 k/\tw2 k<=234)/\(772<=tw3 k/\tw3 k<=780):=by decide
def Zxg{k:Nat}(h:k<4)(j b:Int):Zb2 (TW.drop k) j b=if j=136/\b=tw1 k then [tw2 k,tw3 k] else Zb2 (TW.drop (k+1)) j b:=by
 have q:k<TW.length:=by simpa[TW] using h
 rw[List.drop_eq_getElem_cons q];simp only[Zb2,tw1,tw2,tw3,List.getD_eq_getElem?_getD,List.getElem?_eq_getElem q,Option.getD_some]
def TwoRel(j b:Int)(w0:World)(i:Value)(wr:World):Prop:=∃k:Nat,k<=4/\i=.int .i64 k/\ZcW j b=Zb2 (TW.drop k) j b/\Below w0.heap.size w0 wr
def ZcT(j b:Int):List Int:=if Zav j b≠0 then [Zav j b] else ZcW j b
def Zvf(j b:Int):Zav j b=0\/(128<Zav j b/\Zav j b<=65535/\(Zav j b<55296\/57343<Zav j b)):=by
 unfold Zav;split
 ·exact .inl rfl
 ·exact Zve (λ_ h=>h) j _
def ZnU{j b:Int}(h:Zav j b≠0):Zm (Zav j b)=true:=by
 have:=Zvf j b;rw[Zar];omega
def ZrU(j b:Int)(I:0<=j/\j<=255)(hb:0<=b/\b<=255)(D:Zav j b≠0)(w:World):
 Calls prog 283 #[.int .u8 j,.int .u8 b] w λe w'=>e=.returned (.tuple #[.string ⟨(Lib.encodeRune (Zav j b)).toArray⟩,.bool true])/\Below w.heap.size w w':=by
 have q:=λw=>Zk9 j b I hb w;have y:=ZnU D;rw[decide_eq_true D] at q;generalize Zav j b=p at*;clear D;go_enter func283,ntmps283
 go_wp2_with (first|(go_at_call 324;refine MR (q _) λL u=>?_)|(go_at_call 248;refine MR (Ziu p y _ _) λJ C=>?_))
 go_ret2
 exact⟨rfl,u.trans ((Ze C).mono u.size)⟩
def ZrT(j b:Int)(hl:0<=j/\j<=255)(hb:0<=b/\b<=255)(h1:Zav j b=0)(w:World):
 Calls prog 283 #[.int .u8 j,.int .u8 b] w λe w'=>e=.returned (.tuple #[.string ⟨(Zd (ZcW j b)).toArray⟩,.bool (decide (ZcW j b≠[]))])/\Below w.heap.size w w':=by
 have I:=λw=>Zk9 j b hl hb w;rw[h1] at I;go_enter func283,ntmps283
 go_wp2_with (first|(go_at_call 324;refine MR (I _) λw1 W=>?_)|(go_at_call 325;refine(Zsq _).mono ?_;rintro e w2 ⟨V,rfl,hV,aa⟩))
 clear I;go_loopw [25] (λi wr=>TwoRel j b w i wr) (λi _=>4 - (intOf i).toNat)
 case atStart=>exact⟨0,by omega,rfl,rfl,W.trans (aa.mono W.size)⟩
 case round=>
  obtain⟨k,hk,rfl,L,O⟩:=hrel;by_cases J:k<4
  ·have u:=QQ (Zxg J j b);obtain⟨⟨f1,f2⟩,⟨f3,f4⟩,f5,f6⟩:=Zxc k J;have hi:=hV k J;change∀w,(Instr.index 348 V (.int .i64 k)).run prog w=.ok (.agg #[.int .i64 (tw1 k),.int .i32 (tw2 k),.int .i32 (tw3 k)]) w at hi
   have D:=QQ L;clear L;generalize tw1 k=S at*;generalize tw2 k=p at*;generalize tw3 k=q at*;have X:∀x∈[p,q],Zm x=true:=by
    intro x hx;rw[Zar];simp at hx;rcases hx with rfl|rfl<;>omega
   have N:=O.alloc O.size (.cells #[.int .i64 S,.int .i32 p,.int .i32 q] 347);by_cases C:j=136
   ·by_cases hS:b=S
    ·have y:=QQ (show ZcW j b=[p,q] by rw[D.out,u.out,if_pos ⟨C,hS⟩]);clear u D;subst C hS;go_wp2_with (first|(go_at_call 248;refine MR (ZlB _ _ [p,q] _ (Zva (Nat.lt_succ_self _) (box3 _ _ _ _ _).2.1 (box3 _ _ _ _ _).2.2) (by simp) X (by simp)) λw3 Z=>?_))
     go_ret2
     rw[y.out];exact⟨rfl,N.trans (Z.mono N.size)⟩
    ·have y:=QQ (show ZcW j b=Zb2 (TW.drop (k+1)) j b by rw[D.out,u.out,if_neg (λh=>hS h.2)]);clear u D;subst C;go_wp2_with fail
     go_roundw
     case rel=>exact⟨k+1,by omega,by go_num,y,N⟩
     case measure=>simp[intOf];omega
   ·have y:=QQ (show ZcW j b=Zb2 (TW.drop (k+1)) j b by rw[D.out,u.out,if_neg (λh=>C h.1)]);clear u D;go_wp2_with fail
    go_roundw
    case rel=>exact⟨k+1,by omega,by go_num,y,N⟩
    case measure=>simp[intOf];omega
  ·have Y:k=4:=by omega
   subst Y;have U:=QQ (show ZcW j b=[] from L);clear J L;go_wp2_with fail
   go_ret2
   rw[U.out];exact⟨rfl,O⟩
def ZrS(j b:Int)(u:0<=j/\j<=255)(hb:0<=b/\b<=255)(w:World):
 Calls prog 283 #[.int .u8 j,.int .u8 b] w λe w'=>e=.returned (.tuple #[.string ⟨(Zd (ZcT j b)).toArray⟩,.bool (decide (ZcT j b≠[]))])/\Below w.heap.size w w':=by
 by_cases q:Zav j b=0
 ·have e:ZcT j b=ZcW j b:=by unfold ZcT;rw[if_neg (by simp[q])]
  rw[e];exact ZrT j b u hb q w
 ·have e:ZcT j b=[Zav j b]:=by unfold ZcT;rw[if_pos q]
  have y:Zd [Zav j b]=Lib.encodeRune (Zav j b):=by simp[Zd]
  rw[e,y];exact ZrU j b u hb q w
open Go Go.RowKit Go.Maps
def twoV(x y:UInt8):Value:=.agg #[.int .u8 x.toNat,.int .u8 y.toNat]
def Zgz:Value->Option (DataW Unit×List MemPlace)
 | .agg ⟨[.string s]⟩=>some (.lit (.string s.data.toList),[])
 |_=>none
def Zw0{v:Value}{z:DataW Unit×List MemPlace}(h:Zgz v=some z):∃s:ByteArray,v=.agg #[.string s]/\z=(.lit (.string s.data.toList),[]):=by
 unfold Zgz at h;split at h
 ·injection h with h;exact⟨_,rfl,h.symm⟩
 ·cases h
def law2u:Keyed prog 274:=Keyed.of_law (deep_law_laid (m:=3) (by kernel_rfl) (by decide) (of_decide_eq_true (by kernel_rfl)) (by kernel_rfl) (by kernel_rfl))
def u8_wf(x:UInt8):(Lit.int .u8 (x.toNat:Int)).wf=true:=by
 have:=x.toNat_lt;simp[Lit.wf,IntKind.min,IntKind.max,IntKind.bits,IntKind.signed];omega
def Zxj(z:UInt8):(Lit.int .u8 (z.toNat:Int)).keyBytes=[z]:=by
 have q:=z.toNat_lt;have j:((z.toNat:Int) % 2^IntKind.u8.bits).toNat=z.toNat:=by
  show((z.toNat:Int) % 2^8).toNat=z.toNat
  omega
 show bytesBE 1 ((z.toNat:Int) % 2^IntKind.u8.bits).toNat=[z]
 rw[j];simp[bytesBE,bytesLE]
def Zno(x y:UInt8):keyOf prog 274 (twoV x y)=some (.string [x,y]):=by
 have J:prog.keyType 274=true:=by kernel_rfl
 have j:prog.cellsOf 274=2:=by kernel_rfl
 have D:prog.cellsOf 5=1:=by kernel_rfl
 have L:1<=prog.types.size:=of_decide_eq_true (by kernel_rfl);have I:(twoV x y).formed prog 274=true:=by
  simp[twoV,Value.formed,underlying274,j]
 have u:∀m,prog.keyLits (m+1+1) 274 [.int .u8 x.toNat,.int .u8 y.toNat]=some [.int .u8 x.toNat,.int .u8 y.toNat]:=by
  intro m;have C:∀z:UInt8,prog.keyLits (m+1) 5 [.int .u8 z.toNat]=some [.int .u8 z.toNat]:=by
   intro z;rw[Program.keyLits.eq_def];simp only[underlying5,u8_wf,and_self,if_true]
  rw[Program.keyLits.eq_def];simp only[underlying274,j,D,List.length_cons,List.length_nil,if_true];simp only[List.range_succ,List.range_zero,List.nil_append,List.cons_append,List.mapM_cons,List.mapM_nil];simp[C]
 obtain⟨m,q⟩:∃m,prog.types.size=m+1:=⟨prog.types.size - 1,by omega⟩
 unfold keyOf;rw[underlying274];simp only[J,Bool.true_and];rw[if_pos I,q];show(prog.keyLits (m+1+1) 274 [.int .u8 x.toNat,.int .u8 y.toNat]).map _=_
 rw[u m,Option.map_some];simp only[keyBytes,List.flatMap_cons,List.flatMap_nil,Zxj,List.append_nil,List.cons_append,List.nil_append]
def MpT(w:World)(b n:Nat)(M:UInt8->UInt8->Option (List UInt8)):Prop:=∃D:DataW Unit,w.ownsMap prog 274 Zgz b n D/\(∀x y,(M x y).isSome=Maps.has D (.string [x,y]))/\∀x y t,M x y=some t->∀z,D.atKey (.string [x,y]) z=.lit (.string t)
def MpT.made(w:World):MpT (w.alloc (.map #[] 0)) w.heap.size 0 (λ_ _=>none):=⟨.map [],World.ownsMap_made _ _ _ _,λ_ _=>rfl,λ_ _ _ h=>by cases h⟩
def MpT.kept{w w':World}{b n:Nat}{M:UInt8->UInt8->Option (List UInt8)}{row:Option Nat}(h:MpT w b n M)(q:w.grownBy w' row)(j:some b≠row):MpT w' b n M:=by
 obtain⟨D,y,u⟩:=h;exact⟨D,y.kept q j,u⟩
def MpT.below{w w':World}{b n:Nat}{M:UInt8->UInt8->Option (List UInt8)}(h:MpT w b n M)(hb:Below w.heap.size w w'):MpT w' b n M:=
 h.kept (row:=none) ⟨hb.os,hb.tape,hb.output,hb.size,λk j _=>hb.block k j⟩ (by simp)
def zeroT(w:World):(zeroValue 276).run prog w=.ok (.agg #[.string ⟨#[]⟩]) w:=by kernel_rfl
section
variable {ops:Array Oper} {rest:List Oper} {o:Oper} {a:Act} {Q:Exit->Act->World->Prop} {w:World} {b n:Nat} {M:UInt8->UInt8->Option (List UInt8)}
theorem ZnC(L:o.guard=none)(m x:Operand)(j:o.op=Op.lookup 273 m x true)(h:MpT w b n M)(I:a.eval m=.map (some b))(p q:UInt8)(y:a.eval x=.agg #[.int .u8 p.toNat,.int .u8 q.toNat])
 (hK:∀t:List UInt8,(∀k,M p q=some k->t=k)->wpList prog ops Q rest (a.put o.dst (.tuple #[.agg #[.string (B t)],.bool (M p q).isSome])) w):
 wpList prog ops Q (o::rest) a w:=by
 obtain⟨D,U,O,N⟩:=h;refine wpList_lookup_own_ok w L m x 273 j 274 276 law2u underlying273 Zgz (zeroT _) (.lit (.string [])) [] rfl b n D I U _ (.string [p,q]) y (Zno p q) ?_;intro v ps C;rw[<-O];obtain⟨s,rfl,u⟩:=Zw0 C;have:=hK s.data.toList (λk J=>by
  have e:=N p q k J (.lit (.string []));rw[Prod.mk.injEq] at u;rw[u.1] at e;simpa using e)
 rw[<-ZdC] at this;exact this
theorem ZnD(U:o.guard=none)(m x v:Operand)(u:o.op=Op.mapUpdate 273 m x v)(h:MpT w b n M)(O:a.eval m=.map (some b))(p q:UInt8)(J:a.eval x=.agg #[.int .u8 p.toNat,.int .u8 q.toNat])(t:List UInt8)(L:a.eval v=.agg #[.string (B t)])(hn:n<=10000000)
 (hK:∀w',MpT w' b (n+1) (λx y=>if x=p/\y=q then some t else M x y)->w.grownBy w' (some b)->wpList prog ops Q rest (a.put o.dst undef) w'):
 wpList prog ops Q (o::rest) a w:=by
 obtain⟨D,I,Y,X⟩:=h;have N:Zgz (.agg #[.string (B t)])=some (.lit (.string t),[]):=by
  show some ((.lit (.string (B t).data.toList):DataW Unit),([]:List MemPlace))=_
  rw[Z9]
 refine wpList_mapUpdate_own _ U m x v 273 u 274 276 law2u underlying273 _ b n D O I (by unfold maxLen;omega) _ _ (.string [p,q]) J L (Zno p q) _ [] N ?_;intro w' W V;have C:IsMap D:=by obtain⟨Z,cl,_,_,_,rfl⟩:=I;exact⟨_,rfl⟩
 refine hK w' ⟨_,W,λx y=>?_,λx y k j z=>?_⟩ V
 ·show(if x=p/\y=q then some t else M x y).isSome=_
  by_cases e:x=p/\y=q
  ·obtain⟨rfl,rfl⟩:=e;rw[if_pos ⟨rfl,rfl⟩,has_put_same C (show WideAt.IsKeyLit (.string [x,y]) from trivial)];rfl
  ·rw[if_neg e,Y,has_put_other (by simpa using e)]
 ·have j:(if x=p/\y=q then some t else M x y)=some k:=j;by_cases e:x=p/\y=q
  ·obtain⟨rfl,rfl⟩:=e;rw[if_pos ⟨rfl,rfl⟩] at j;injection j with j;subst j;exact atKey_put_same C (show WideAt.IsKeyLit (.string [x,y]) from trivial) _ _
  ·rw[if_neg e] at j;rw[atKey_put_other (by simpa using e)];exact X x y k j z
end
open Go Go.RowKit
def ZeE{k:IntKind}{a b:Int}{x y:Bool}(h:a=b)(j:x=y):Ending.returned (.tuple #[.int k a,.bool x])=.returned (.tuple #[.int k b,.bool y]):=by rw[h,j]
def v0(z:Int):Int:=if z= -2 then 0 else z
def g0(z:Int):Bool:=decide (z≠ -2)
def Zko:v0 (-2)=0:=rfl
def Zi1:g0 (-2)=false:=rfl
def Zkp{z:Int}(h:z≠ -2):v0 z=z:=if_neg h
def Zi2{z:Int}(h:z≠ -2):g0 z=true:=by simp[g0,h]
def ZqH(c:Int)(h0:0<=c/\c<=1000)(w:World):
 Calls prog 319 #[.int .i64 c] w λe w'=>e=.returned (.tuple #[.int .i64 (v0 (Zch c)),.bool (g0 (Zch c))])/\w=w':=by
 by_cases q:c=1
 ·subst q;go_enter func319,ntmps319
  go_wp2_with fail
  go_ret2
  exact⟨rfl,rfl⟩
 have hb:(c==1)=false:=by simpa using q
 have a0:=h0.1;have y:=h0.2;clear h0;obtain⟨z,j⟩:∃z,Zch c=z:=⟨_,rfl⟩
 rw[j];have u:=QQ j;clear j;go_enter func319,ntmps319
 go_wp2
 all_goals go_ret2
 all_goals refine⟨ZeE ?_ ?_,rfl⟩
 all_goals (have j:=u.out;clear u;unfold Zch at j;(repeat' split at j)<;>subst j<;>first|rfl|(exfalso;omega)|(unfold v0;split<;>omega)|(unfold g0;simp;omega))
def ZqI(c:Int)(h0:0<=c/\c<=1000)(w:World):
 Calls prog 320 #[.int .i64 c] w λe w'=>e=.returned (.tuple #[.int .i64 (v0 (Zcl c)),.bool (g0 (Zcl c))])/\w=w':=by
 by_cases q:c=2
 ·subst q;go_enter func320,ntmps320
  go_wp2_with fail
  go_ret2
  exact⟨rfl,rfl⟩
 have hb:(c==2)=false:=by simpa using q
 have a0:=h0.1;have y:=h0.2;clear h0;obtain⟨z,j⟩:∃z,Zcl c=z:=⟨_,rfl⟩
 rw[j];have u:=QQ j;clear j;go_enter func320,ntmps320
 go_wp2
 all_goals go_ret2
 all_goals refine⟨ZeE ?_ ?_,rfl⟩
 all_goals (have j:=u.out;clear u;unfold Zcl at j;(repeat' split at j)<;>subst j<;>first|rfl|(exfalso;omega)|(unfold v0;split<;>omega)|(unfold g0;simp;omega))
def ZqG(c:Int)(h0:0<=c/\c<=1000)(w:World):
 Calls prog 321 #[.int .i64 c] w λe w'=>e=.returned (.tuple #[.int .i64 (v0 (ZbS c)),.bool (g0 (ZbS c))])/\w=w':=by
 have a0:=h0.1;have u:=h0.2;clear h0;obtain⟨z,j⟩:∃z,ZbS c=z:=⟨_,rfl⟩
 rw[j];have q:=QQ j;clear j;go_enter func321,ntmps321
 go_wp2
 all_goals go_ret2
 all_goals refine⟨ZeE ?_ ?_,rfl⟩
 all_goals (have j:=q.out;clear q;unfold ZbS at j;(repeat' split at j)<;>subst j<;>first|rfl|(exfalso;omega)|(unfold v0;split<;>omega)|(unfold g0;simp;omega))
def ZqK(i m f:Int)(q:0<=i/\i<=18)(j:0<=m/\m<=20)(u:0<=f/\f<=27)(w:World):
 Calls prog 322 #[.int .i64 i,.int .i64 m,.int .i64 f] w λe w'=>e=.returned (.tuple #[.int .i32 (sylZ i m f),.bool true])/\w=w':=by
 obtain⟨I,D⟩:=q;obtain⟨C,y⟩:=j;obtain⟨L,J⟩:=u;have d1:decide (i<0)=false:=by simp;omega
 have d2:decide ((19:Int)<=i)=false:=by simp;omega
 have d3:decide (m<0)=false:=by simp;omega
 have d4:decide ((21:Int)<=m)=false:=by simp;omega
 have d5:decide (f<0)=false:=by simp;omega
 have N:decide ((28:Int)<=f)=false:=by simp;omega
 go_enter func322,ntmps322
 go_wp2_with fail
 go_ret2
 exact⟨rfl,rfl⟩
def idx_hi{k:Nat}(j:k<256):Lib.indexByte Zdp (UInt8.ofNat k)<30:=by
 have h:(List.range 256).all (λk=>decide (Lib.indexByte Zdp (UInt8.ofNat k)<30))=true:=by decide+kernel
 simpa using List.all_eq_true.1 h k (List.mem_range.2 j)
def Zk2(k:Nat)(I:k<256)(w:World):
 Calls prog 323 #[.int .u8 (k:Int)] w λe w'=>e=.returned (.tuple #[.int .i32 (Zbd k),.bool (decide (Zbd k≠0))])/\Below w.heap.size w w':=by
 have J:=Lib.indexByte_ge Zdp (UInt8.ofNat k);have C:=idx_hi I;have U:(UInt8.ofNat k).toNat=k:=by simp;omega
 have u:∀w,Calls prog 60 #[.string ⟨#[65,66,100,67,102,103,68,69,70,106,107,108,109,110,111,112,71,72,73,115,74,75,76,77,78,79,80,81,82,83]⟩,.int .u8 (k:Int)] w λe w'=>e=.returned (.int .i64 (Lib.indexByte Zdp (UInt8.ofNat k)))/\Below w.heap.size w w':=by
  intro w;refine(strings_IndexByte _ _ w).mono ?_;rintro e w' ⟨rfl,rfl⟩;refine⟨ZaH ?_,Below.refl _ _⟩;have L:((k:Int)).toNat.toUInt8=UInt8.ofNat k:=by simp[Nat.toUInt8]
  rw[L];rfl
 have y:Zbd k=if Lib.indexByte Zdp (UInt8.ofNat k)<0 then 0 else 12593+Lib.indexByte Zdp (UInt8.ofNat k):=rfl
 generalize Lib.indexByte Zdp (UInt8.ofNat k)=j at*;by_cases h0:j<0
 ·have e:Zbd k=0:=by rw[y,if_pos h0]
  have E:=QQ e;clear y e;go_enter func323,ntmps323
  go_wp2_with (go_at_call 60;refine MR (u _) λD q=>?_)
  go_ret2
  rw[E.out];exact⟨rfl,q⟩
 ·have e:Zbd k=12593+j:=by rw[y,if_neg h0]
  have E:=QQ e;have O:0<=j:=by omega
  have N:j<=30:=by omega
  clear y e;go_enter func323,ntmps323
  go_wp2_with (go_at_call 60;refine MR (u _) λD q=>?_)
  go_ret2
  rw[E.out];exact⟨ZeE rfl (by simp;omega),q⟩
def Zjd{x:Int}(h0:0<=x)(j:x<=65535):bits .and .i64 x 31=x % 32:=
 bits_mask .i64 63 (by decide) (λn h0 j=>by simp[IntKind.wrap,IntKind.bits,IntKind.signed];omega) 5 (by decide) x h0 (by omega)
def ZqJ(a b:UInt8)(w:World):
 Calls prog 282 #[.int .u8 a.toNat,.int .u8 b.toNat] w λe w'=>e=.returned (.tuple #[.int .i32 (ZaX ((a.toNat*256+b.toNat:Nat):Int)),.bool (decide (ZaX ((a.toNat*256+b.toNat:Nat):Int)≠0))])/\Below w.heap.size w w':=by
 have ha:=a.toNat_lt;have hb:=b.toNat_lt;generalize a.toNat=x at*;generalize b.toNat=y at*;have an:bits .or .i64 ((x:Int)*256) y=((x*256+y:Nat):Int):=by
  rw[Zje (by omega) (by omega) (by omega) (by omega)];omega
 have hN:0<=((x*256+y:Nat):Int)/\((x*256+y:Nat):Int)<=65535:=by omega
 generalize ((x*256+y:Nat):Int)=N at*;obtain⟨N0,N1⟩:=hN;have h1:bits .and .i64 (N / 1024) 31=N / 1024 % 32:=Zjd (by omega) (by omega);have h2:bits .and .i64 (N / 32) 31=N / 32 % 32:=Zjd (by omega) (by omega);have h3:bits .and .i64 N 31=N % 32:=Zjd (by omega) (by omega);have r1:0<=N / 1024 % 32/\N / 1024 % 32<=1000:=by omega
 have r2:0<=N / 32 % 32/\N / 32 % 32<=1000:=by omega
 have r3:0<=N % 32/\N % 32<=1000:=by omega
 have u:=λw=>ZqH _ r1 w;have q:=λw=>ZqI _ r2 w;have cf:=λw=>ZqG _ r3 w;have bi:=Znf (N / 1024 % 32);have Z:=ZnA (N / 32 % 32);have bf:=ZmN (N % 32);have L:ZaX N=if N<32768\/Zch (N / 1024 % 32)= -2\/Zcl (N / 32 % 32)= -2\/ZbS (N % 32)= -2 then 0 else Zgt (Zch (N / 1024 % 32)) (Zcl (N / 32 % 32)) (ZbS (N % 32)):=rfl
 have hx:(x:Int)<=255:=by omega
 have hy:(y:Int)<=255:=by omega
 clear r1 r2 r3 ha hb;generalize N / 1024 % 32=c1 at*;generalize N / 32 % 32=c2 at*;generalize N % 32=c3 at*;generalize Zch c1=i at*;generalize Zcl c2=m at*;generalize ZbS c3=f at*;generalize ZaX N=J at*;by_cases hA:N<32768
 ·have E:J=0:=by rw[L,if_pos (.inl hA)]
  subst E;have e0:(N / 32768==0)=true:=by simp;omega
  clear L;go_enter func282,ntmps282
  go_wp2_with (first|(go_at_call 319;refine(u _).mono ?_;rintro e w' ⟨rfl,rfl⟩)|(go_at_call 320;refine(q _).mono ?_;rintro e w' ⟨rfl,rfl⟩)|(go_at_call 321;refine(cf _).mono ?_;rintro e w' ⟨rfl,rfl⟩))
  go_ret2
  exact⟨rfl,Below.refl _ _⟩
 have eN:(N / 32768==0)=false:=by rw[beq_eq_false_iff_ne];omega
 by_cases hB:i= -2
 ·have E:J=0:=by rw[L,if_pos (.inr (.inl hB))]
  subst E hB;clear L;rw[Zko,Zi1] at u;go_enter func282,ntmps282
  go_wp2_with (first|(go_at_call 319;refine(u _).mono ?_;rintro e w' ⟨rfl,rfl⟩)|(go_at_call 320;refine(q _).mono ?_;rintro e w' ⟨rfl,rfl⟩)|(go_at_call 321;refine(cf _).mono ?_;rintro e w' ⟨rfl,rfl⟩))
  go_ret2
  exact⟨rfl,Below.refl _ _⟩
 rw[Zkp hB,Zi2 hB] at u;by_cases hC:m= -2
 ·have E:J=0:=by rw[L,if_pos (.inr (.inr (.inl hC)))]
  subst E hC;clear L;rw[Zko,Zi1] at q;go_enter func282,ntmps282
  go_wp2_with (first|(go_at_call 319;refine(u _).mono ?_;rintro e w' ⟨rfl,rfl⟩)|(go_at_call 320;refine(q _).mono ?_;rintro e w' ⟨rfl,rfl⟩)|(go_at_call 321;refine(cf _).mono ?_;rintro e w' ⟨rfl,rfl⟩))
  go_ret2
  exact⟨rfl,Below.refl _ _⟩
 rw[Zkp hC,Zi2 hC] at q;by_cases hD:f= -2
 ·have E:J=0:=by rw[L,if_pos (.inr (.inr (.inr hD)))]
  subst E hD;clear L;rw[Zko,Zi1] at cf;go_enter func282,ntmps282
  go_wp2_with (first|(go_at_call 319;refine(u _).mono ?_;rintro e w' ⟨rfl,rfl⟩)|(go_at_call 320;refine(q _).mono ?_;rintro e w' ⟨rfl,rfl⟩)|(go_at_call 321;refine(cf _).mono ?_;rintro e w' ⟨rfl,rfl⟩))
  go_ret2
  exact⟨rfl,Below.refl _ _⟩
 rw[Zkp hD,Zi2 hD] at cf;have U:0<=f/\f<=27:=by omega
 have j:J=Zgt i m f:=by rw[L,if_neg (by omega)]
 clear L bf;unfold Zgt at j;by_cases O:i= -1
 ·subst O;by_cases C:m= -1
  ·subst C;by_cases D:f=0
   ·subst D;have E:J=0:=by rw[j];rfl
    subst E;clear j;have e1:decide ((-1:Int)= -1)=true:=rfl;go_enter func282,ntmps282
    go_wp2_with (first|(go_at_call 319;refine(u _).mono ?_;rintro e w' ⟨rfl,rfl⟩)|(go_at_call 320;refine(q _).mono ?_;rintro e w' ⟨rfl,rfl⟩)|(go_at_call 321;refine(cf _).mono ?_;rintro e w' ⟨rfl,rfl⟩))
    go_ret2
    exact⟨rfl,Below.refl _ _⟩
   ·have E:J=Zbd (97+f.toNat):=by rw[j,if_neg (by omega),if_neg (by omega),if_neg (by omega),if_pos ⟨rfl,rfl,D⟩]
    have ef:(f==0)=false:=by simpa using D
    have Y:(f !=0)=true:=by simpa using D
    obtain⟨k,rfl⟩:∃k:Nat,f=k:=⟨f.toNat,by omega⟩
    have X:((97+k:Nat):Int)=97+(k:Int):=by omega
    have I:=λw=>Zk2 (97+k) (by omega) w;rw[Int.toNat_natCast] at E;rw[<-E,X] at I;clear j E X;have f1:=U.2;clear U;go_enter func282,ntmps282
    go_wp2_with (first|(go_at_call 319;refine(u _).mono ?_;rintro e w' ⟨rfl,rfl⟩)|(go_at_call 320;refine(q _).mono ?_;rintro e w' ⟨rfl,rfl⟩)|(go_at_call 321;refine(cf _).mono ?_;rintro e w' ⟨rfl,rfl⟩)|(go_at_call 323;refine MR (I _) λw1 V=>?_))
    go_ret2
    exact⟨ZeE rfl (by simp),V⟩
  ·have m0:0<=m:=by omega
   have m1:=Z.2;have em:(m== -1)=false:=by simpa using C
   have ae:(m != -1)=true:=by simpa using C
   by_cases D:f=0
   ·subst D;have E:J=12623+m:=by rw[j,if_neg (by omega),if_pos ⟨rfl,C,rfl⟩]
    have E0:decide (J≠0)=true:=by simp;omega
    rw[E0];subst E;clear j Z U C E0;have e1:decide ((-1:Int)= -1)=true:=rfl;go_enter func282,ntmps282
    go_wp2_with (first|(go_at_call 319;refine(u _).mono ?_;rintro e w' ⟨rfl,rfl⟩)|(go_at_call 320;refine(q _).mono ?_;rintro e w' ⟨rfl,rfl⟩)|(go_at_call 321;refine(cf _).mono ?_;rintro e w' ⟨rfl,rfl⟩))
    go_ret2
    exact⟨rfl,Below.refl _ _⟩
   ·have E:J=0:=by rw[j,if_neg (by omega),if_neg (by omega),if_neg (by omega),if_neg (by omega)]
    subst E;have ef:(f==0)=false:=by simpa using D
    have Y:(f !=0)=true:=by simpa using D
    clear j Z U C;have e1:decide ((-1:Int)= -1)=true:=rfl;go_enter func282,ntmps282
    go_wp2_with (first|(go_at_call 319;refine(u _).mono ?_;rintro e w' ⟨rfl,rfl⟩)|(go_at_call 320;refine(q _).mono ?_;rintro e w' ⟨rfl,rfl⟩)|(go_at_call 321;refine(cf _).mono ?_;rintro e w' ⟨rfl,rfl⟩))
    go_ret2
    exact⟨rfl,Below.refl _ _⟩
 ·have i0:0<=i:=by omega
  have i1:=bi.2;have ei:(i== -1)=false:=by simpa using O
  have aw:(i != -1)=true:=by simpa using O
  by_cases C:m= -1
  ·subst C;by_cases D:f=0
   ·subst D;have E:J=Zbd (65+i.toNat):=by rw[j,if_neg (by omega),if_neg (by omega),if_pos ⟨O,rfl,rfl⟩]
    obtain⟨k,rfl⟩:∃k:Nat,i=k:=⟨i.toNat,by omega⟩
    have X:((65+k:Nat):Int)=65+(k:Int):=by omega
    have I:=λw=>Zk2 (65+k) (by omega) w;rw[Int.toNat_natCast] at E;rw[<-E,X] at I;clear j E X O bi;clear U;go_enter func282,ntmps282
    go_wp2_with (first|(go_at_call 319;refine(u _).mono ?_;rintro e w' ⟨rfl,rfl⟩)|(go_at_call 320;refine(q _).mono ?_;rintro e w' ⟨rfl,rfl⟩)|(go_at_call 321;refine(cf _).mono ?_;rintro e w' ⟨rfl,rfl⟩)|(go_at_call 323;refine MR (I _) λw1 V=>?_))
    go_ret2
    exact⟨ZeE rfl (by simp),V⟩
   ·have E:J=0:=by rw[j,if_neg (by omega),if_neg (by omega),if_neg (by omega),if_neg (by omega)]
    subst E;have ef:(f==0)=false:=by simpa using D
    have Y:(f !=0)=true:=by simpa using D
    clear j bi U O;have e1:decide ((-1:Int)= -1)=true:=rfl;go_enter func282,ntmps282
    go_wp2_with (first|(go_at_call 319;refine(u _).mono ?_;rintro e w' ⟨rfl,rfl⟩)|(go_at_call 320;refine(q _).mono ?_;rintro e w' ⟨rfl,rfl⟩)|(go_at_call 321;refine(cf _).mono ?_;rintro e w' ⟨rfl,rfl⟩))
    go_ret2
    exact⟨rfl,Below.refl _ _⟩
  ·have E:J=sylZ i m f:=by rw[j,if_pos ⟨O,C⟩]
   have m0:0<=m:=by omega
   have m1:=Z.2;have em:(m== -1)=false:=by simpa using C
   have ae:(m != -1)=true:=by simpa using C
   have W:=λw=>ZqK i m f (by omega) (by omega) U w;have E0:decide (J≠0)=true:=by rw[E];unfold sylZ;simp;omega
   rw[E0];rw[<-E] at W;clear j E bi Z U C O E0;have e1:decide ((-1:Int)= -1)=true:=rfl;go_enter func282,ntmps282
   go_wp2_with (first|(go_at_call 319;refine(u _).mono ?_;rintro e w' ⟨rfl,rfl⟩)|(go_at_call 320;refine(q _).mono ?_;rintro e w' ⟨rfl,rfl⟩)|(go_at_call 321;refine(cf _).mono ?_;rintro e w' ⟨rfl,rfl⟩)|(go_at_call 322;refine(W _).mono ?_;rintro e w1 ⟨rfl,rfl⟩))
   go_ret2
   exact⟨rfl,Below.refl _ _⟩
def Znd{x y:Int}(j:0<=y)(q:y<256)(u:0<=x)(C:x<8388608):bits .or .i32 (x*256) y=x*256+y:=
 bits_join .i32 31 (by decide) (λn h0 D=>by simp[IntKind.wrap,IntKind.bits,IntKind.signed];omega) 8 (x*256) y (by omega) (by omega) (by omega) j q (by omega)
def ZlC(s:ByteArray)(i:Nat)(C:i+1<s.size)(hs:s.size<=140737488355328)(big:Bool)(w:World):
 Calls prog 259 #[.string s,.int .i64 i,.bool big] w λe w'=>e=.returned (.int .i32 (Zt big s[i] s[i+1]))/\Below w.heap.size w w':=by
 have h0:=(s[i]).toNat_lt;have I:=(s[i+1]).toNat_lt;have j:i<s.size:=by omega
 have D:0<=(i:Int)+1/\(i:Int)+1<(s.size:Int):=by omega
 have y:0<=(i:Int)+1:=by omega
 have u:(i:Int)+1<(s.size:Int):=by omega
 have q:((i:Int)+1).toNat=i+1:=by omega
 go_enter func259,ntmps259
 cases big
 ·go_wp2_with fail
  go_region
  go_wp2_with fail
  go_ret
  exact⟨ZaH (by rw[Znd (by omega) (by omega) (by omega) (by omega)];simp[Zt]),(Below.refl _ _).drew⟩
 ·go_wp2_with fail
  go_region
  go_wp2_with fail
  go_ret
  exact⟨ZaH (by rw[Znd (by omega) (by omega) (by omega) (by omega)];simp[Zt]),(Below.refl _ _).drew⟩
def Zmt(s:ByteArray)(i:Nat)(j:i+1<s.size):s.data.toList.drop i=s[i]::s[i+1]::s.data.toList.drop (i+2):=by
 have h0:i<s.data.toList.length:=by simpa using (by omega:i<s.size)
 have q:i+1<s.data.toList.length:=by simpa using j
 rw[List.drop_eq_getElem_cons h0,List.drop_eq_getElem_cons q];rfl
def Zo6(s:ByteArray)(i:Nat):(s.data.toList.drop i).length=s.size - i:=by simp
def ZxF{big:Bool}{a b:UInt8}{r:List UInt8}(h:Zt big a b<55296\/57344<=Zt big a b):Zv big (a::b::r)=(Zt big a b,2):=by
 simp only[Zv,if_pos h]
def ZxG{big:Bool}{a b:UInt8}{r:List UInt8}(h:¬(Zt big a b<55296\/57344<=Zt big a b))(j:56320<=Zt big a b):Zv big (a::b::r)=(0,0):=by
 simp only[Zv,if_neg h,if_pos j]
def ZxJ{big:Bool}{a b:UInt8}{r:List UInt8}(h:¬(Zt big a b<55296\/57344<=Zt big a b))(q:¬56320<=Zt big a b)(j:r.length<2):Zv big (a::b::r)=(0,0):=by
 match r,j with
 |[],_=>simp only[Zv,if_neg h,if_neg q]
 |[_],_=>simp only[Zv,if_neg h,if_neg q]
 |_::_::_,j=>simp at j;omega
def ZxH{big:Bool}{a b c d:UInt8}{r:List UInt8}(h:¬(Zt big a b<55296\/57344<=Zt big a b))(q:¬56320<=Zt big a b)(j:Zt big c d<56320\/57344<=Zt big c d):Zv big (a::b::c::d::r)=(0,0):=by
 simp only[Zv,if_neg h,if_neg q,if_pos j]
def ZxE{big:Bool}{a b c d:UInt8}{r:List UInt8}(h:¬(Zt big a b<55296\/57344<=Zt big a b))(q:¬56320<=Zt big a b)(j:¬(Zt big c d<56320\/57344<=Zt big c d)):
 Zv big (a::b::c::d::r)=(65536+(Zt big a b - 55296)*1024+(Zt big c d - 56320),4):=by
 simp only[Zv,if_neg h,if_neg q,if_neg j]
def Zlp(s:ByteArray)(i:Nat)(hi:i<=s.size)(hs:s.size<=140737488355328)(big:Bool)(w:World):
 Calls prog 189 #[.string s,.int .i64 i,.bool big] w λe w'=>e=.returned (.tuple #[.int .i32 (Zv big (s.data.toList.drop i)).1,.int .i64 (Zv big (s.data.toList.drop i)).2])/\Below w.heap.size w w':=by
 have U:=Zo6 s i;by_cases h2:i+1<s.size
 ·have hd:=Zmt s i h2;have L:=ZlC s i h2 hs big;have hr:=ZhY big s[i] s[i+1];have O:=@ZxF big s[i] s[i+1] (s.data.toList.drop (i+2));have W:=@ZxG big s[i] s[i+1] (s.data.toList.drop (i+2));have V:=@ZxJ big s[i] s[i+1] (s.data.toList.drop (i+2));have D:=λc d=>@ZxH big s[i] s[i+1] c d (s.data.toList.drop (i+2+2));have N:=λc d=>@ZxE big s[i] s[i+1] c d (s.data.toList.drop (i+2+2));have y:=Zo6 s (i+2);generalize Zt big s[i] s[i+1]=u at*;by_cases c1:u<55296
  ·have q:Hid (Zv big (s.data.toList.drop i)=(u,2)):=by rw[hd];exact O (.inl c1)
   rw[q.out];clear U hd O W V D N y;go_enter func189,ntmps189
   go_wp2_with (go_at_call 259;refine MR (L _) λX j=>?_)
   go_ret2
   exact⟨rfl,j⟩
  by_cases c2:57344<=u
  ·have q:Hid (Zv big (s.data.toList.drop i)=(u,2)):=by rw[hd];exact O (.inr c2)
   rw[q.out];clear U hd O W V D N y;go_enter func189,ntmps189
   go_wp2_with (go_at_call 259;refine MR (L _) λX j=>?_)
   go_ret2
   exact⟨rfl,j⟩
  have hn:¬(u<55296\/57344<=u):=by omega
  by_cases Y:56320<=u
  ·have q:Hid (Zv big (s.data.toList.drop i)=(0,0)):=by rw[hd];exact W hn Y
   rw[q.out];clear U hd O W V D N y hn;go_enter func189,ntmps189
   go_wp2_with (go_at_call 259;refine MR (L _) λX j=>?_)
   go_ret2
   exact⟨rfl,j⟩
  by_cases c4:s.size<i+4
  ·have q:Hid (Zv big (s.data.toList.drop i)=(0,0)):=by rw[hd];exact V hn Y (by omega)
   rw[q.out];clear U hd O W V D N y hn;go_enter func189,ntmps189
   go_wp2_with (go_at_call 259;refine MR (L _) λX j=>?_)
   go_ret2
   exact⟨rfl,j⟩
  have h4:i+2+1<s.size:=by omega
  have C:=Zmt s (i+2) h4;have Z:=ZlC s (i+2) h4 hs big;rw[show(((i+2:Nat):Int))=(i:Int)+2 from by omega] at Z;have ad:=ZhY big s[i+2] s[i+2+1];have D:=D s[i+2] s[i+2+1];have N:=N s[i+2] s[i+2+1];generalize Zt big s[i+2] s[i+2+1]=v at*;by_cases c5:v<56320
  ·have q:Hid (Zv big (s.data.toList.drop i)=(0,0)):=by rw[hd,C];exact D hn Y (.inl c5)
   rw[q.out];clear U hd O W V D N y hn C;go_enter func189,ntmps189
   go_wp2_with (go_at_call 259;first|(refine MR (L _) λX j=>?_;have I:=j.size;clear L)|(refine MR (Z _) λw2 J=>?_))
   go_ret2
   exact⟨rfl,j.trans (J.mono I)⟩
  by_cases c6:57344<=v
  ·have q:Hid (Zv big (s.data.toList.drop i)=(0,0)):=by rw[hd,C];exact D hn Y (.inr c6)
   rw[q.out];clear U hd O W V D N y hn C;go_enter func189,ntmps189
   go_wp2_with (go_at_call 259;first|(refine MR (L _) λX j=>?_;have I:=j.size;clear L)|(refine MR (Z _) λw2 J=>?_))
   go_ret2
   exact⟨rfl,j.trans (J.mono I)⟩
  have q:Hid (Zv big (s.data.toList.drop i)=(65536+(u - 55296)*1024+(v - 56320),4)):=by rw[hd,C];exact N hn Y (by omega)
  rw[q.out];clear U hd O W V D N y hn C;go_enter func189,ntmps189
  go_wp2_with (go_at_call 259;first|(refine MR (L _) λX j=>?_;have I:=j.size;clear L)|(refine MR (Z _) λw2 J=>?_))
  go_ret2
  exact⟨by simp,j.trans (J.mono I)⟩
 ·have q:Hid (Zv big (s.data.toList.drop i)=(0,0)):=by
   generalize s.data.toList.drop i=l at*
   match l,U with
   |[],_=>rfl
   |[_],_=>rfl
   |_::_::_,h=>simp at h;omega
  rw[q.out];clear U;go_enter func189,ntmps189
  go_wp2_with fail
  go_ret2
  exact⟨rfl,Below.refl _ _⟩
