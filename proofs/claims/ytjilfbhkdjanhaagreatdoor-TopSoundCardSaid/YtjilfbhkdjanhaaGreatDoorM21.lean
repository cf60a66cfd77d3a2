/- Lemmas for a statement on the tops; conditions: as each says. -/
import Derived.Test.YtjilfbhkdjanhaaGreatDoorM20
set_option linter.all false
set_option maxRecDepth 100000
set_option maxHeartbeats 1000000
open Go.Proofs.Tryz
namespace Go.Proofs.YtjilfbhkdjanhaaGreatDoor
open Go Go.RowKit
def ZcG(big:Bool)(u:Int):List Int:=if big then [u / 256,u % 256] else [u % 256,u / 256]
def Zeb(big:Bool)(p:Int):List Int:=if p<65536 then ZcG big p else ZcG big (55296+(p - 65536) / 1024)++ZcG big (56320+(p - 65536) % 1024)
def Zba(big:Bool)(ps:List Int):List Int:=ps.flatMap (Zeb big)
def ZpH(big:Bool)(a:List Int)(p:Int):Zba big (a++[p])=Zba big a++Zeb big p:=by simp[Zba]
def Zxx(big:Bool)(p:Int):(Zeb big p).map (λz=>z.toNat.toUInt8)=Za1 big p:=by
 unfold Zeb Za1 ZcG two;cases big<;>by_cases h:p<65536<;>simp[h]
def ZpG(big:Bool)(ps:List Int):(Zba big ps).map (λz=>z.toNat.toUInt8)=Zx big ps:=by
 induction ps with
 |nil=>rfl
 |cons p ps j=>
  rw[ZeM,<-j,<-Zxx];simp[Zba]
def ZwN(big:Bool)(ps:List Int):strOfNums (Zba big ps)=⟨(Zx big ps).toArray⟩:=by
 rw[<-ZpG];rfl
def Zc4(w:World)(x y:Value)(t:TypeId):∀j u,[x,y][j]?=some u->(w.alloc (.cells #[x,y] t)).cell? ((⟨w.heap.size,0,none⟩:Addr).add j)=some u:=by
 intro j u C;have q:(⟨w.heap.size,0,none⟩:Addr).add j=⟨w.heap.size,j,none⟩:=by unfold Addr.add;split<;>simp_all
 rw[q,cell_of_row _ w.heap.size j _ t (0,0) (heap_alloc_new w _)];simpa using C
def own_lt{w:World}{base:Nat}{e:TypeId}{size:Nat}{v:Value}{n:Nat}{xs:List Value}(h:w.ownsRow base e size v n xs){g:Nat}(j:v.ownBlock=some g):g<w.heap.size:=by
 rcases h.2 with⟨rfl,_⟩|⟨u,cap,cur,rfl,hb,q,rest⟩
 ·simp[Value.ownBlock] at j
 ·have:u=g:=by simpa[Value.ownBlock] using j
  subst this;exact(Array.getElem?_eq_some_iff.1 q).1
def Zah(w w':World):Prop:=∀(K:Nat) s i,w.heap[K]?=some (.stringIter s i)->w'.heap[K]?=some (.stringIter s i)
def Zah.alloc(w:World)(o:Obj):Zah w (w.alloc o):=λK s i h=>by
 have:=Below.heap_alloc w o K (Zfg h);rw[this,h]
def Zah.trans{a b c:World}(h:Zah a b)(k:Zah b c):Zah a c:=λK s i j=>k K s i (h K s i j)
def Zah.grown{w w':World}{base:Nat}{e:TypeId}{size:Nat}{v:Value}{n:Nat}{xs:List Value}(h:w.ownsRow base e size v n xs)(q:w.grownBy w' v.ownBlock):Zah w w':=λK s i j=>by
 rw[q.block K (Zfg j) (Zjj h j),j]
def Zl6{w:World}{a:Addr}{v:Value}(h:w.cell? a=some v):a.block<w.heap.size:=by
 by_cases j:a.block<w.heap.size
 ·exact j
 ·rw[World.cell?] at h;simp[Array.getElem?_eq_none (Nat.le_of_not_lt j)] at h
def Zm6{w w':World}{row:Option Nat}(u:w.grownBy w' row){p:Addr}(q:p.block<w.heap.size)(j:some p.block≠row):w'.cell? p=w.cell? p:=by
 simp only[World.cell?,u.block p.block q j]
def ZqL(big:Bool)(u:Int)(C:0<=u/\u<65536)(b c B n:Nat)(v:Value)(xs:List Value)(w:World)(j:w.ownsRow B 5 1 v n xs)(Z:w.cell? ⟨b,0,none⟩=some (.int .i32 u))
 (U:n+2<=140737488355328) (hB:B<=w.heap.size):
 Calls prog 294 #[v,.bool big,.slice (some ⟨b,0,none⟩) 1 c] w λe w'=>∃I,e=.returned I/\w'.ownsRow B 5 1 I (n+2) (xs++(ZcG big u).map (Value.int .u8))/\Below B w w'/\Zah w w':=by
 obtain⟨O,V,N,L,J⟩:=info_parts Zg8;have Y:=C.1;have X:=C.2;go_enter func294,ntmps294
 go_wp2_with fail
 refine wp_loop_rounds 2 ?_;rw[rounds_succ];cases big
 ·go_wp2_with (at_builtin;refine wpList_append_own _ rfl _ _ 110 rfl B 5 O (.int .u8 0) 1 1 underlying110 V N L J rfl (by decide) v n _ rfl (j.alloc _) ⟨w.heap.size,0,none⟩ 2 2 [_,_] rfl rfl (Zc4 _ _ _ _) (by intro u C;simp at C;rcases C with rfl|rfl<;>rfl) (by unfold maxLen;omega) (by omega) (by simp;omega) ?_;intro I W q y _)
  rw[rounds_succ];go_wp2_with fail
  go_ret
  have D:=Zad (((Below.refl B w)).alloc hB (.cells #[.int .u8 (u % 256),.int .u8 (u / 256)] 5)) (j.alloc _) y (by simp;omega) NL;exact⟨I,rfl,q,D,(Zah.alloc _ _).trans (Zah.grown (j.alloc _) y)⟩
 ·go_wp2_with (at_builtin;refine wpList_append_own _ rfl _ _ 110 rfl B 5 O (.int .u8 0) 1 1 underlying110 V N L J rfl (by decide) v n _ rfl (j.alloc _) ⟨w.heap.size,0,none⟩ 2 2 [_,_] rfl rfl (Zc4 _ _ _ _) (by intro u C;simp at C;rcases C with rfl|rfl<;>rfl) (by unfold maxLen;omega) (by omega) (by simp;omega) ?_;intro I W q y _)
  rw[rounds_succ];go_wp2_with fail
  go_ret
  have D:=Zad (((Below.refl B w)).alloc hB (.cells #[.int .u8 (u / 256),.int .u8 (u % 256)] 5)) (j.alloc _) y (by simp;omega) NL;exact⟨I,rfl,q,D,(Zah.alloc _ _).trans (Zah.grown (j.alloc _) y)⟩
def ZqM(big:Bool)(u t:Int)(D:0<=u/\u<65536)(ht:0<=t/\t<65536)(b c B n:Nat)(v:Value)(xs:List Value)(w:World)(q:w.ownsRow B 5 1 v n xs)
 (hc:w.cell? ⟨b,0,none⟩=some (.int .i32 u)) (hd:w.cell? ⟨b,1,none⟩=some (.int .i32 t)) (af:v.ownBlock≠some b)
 (aj:n+4<=140737488355328) (hB:B<=w.heap.size):
 Calls prog 294 #[v,.bool big,.slice (some ⟨b,0,none⟩) 2 c] w λe w'=>∃Z,e=.returned Z/\w'.ownsRow B 5 1 Z (n+2+2) (xs++(ZcG big u).map (Value.int .u8)++(ZcG big t).map (Value.int .u8))/\Below B w w'/\Zah w w':=by
 obtain⟨i0,hi,O,N,L⟩:=info_parts Zg8;have an:=D.1;have am:=D.2;have ap:=ht.1;have ao:=ht.2;have ab:=Zl6 hd;have U:some b≠v.ownBlock:=λe=>af e.symm;go_enter func294,ntmps294
 go_wp2_with fail
 refine wp_loop_rounds 3 ?_;rw[rounds_succ];cases big
 ·go_wp2_with (at_builtin;refine wpList_append_own _ rfl _ _ 110 rfl B 5 i0 (.int .u8 0) 1 1 underlying110 hi O N L rfl (by decide) v n _ rfl (q.alloc _) ⟨w.heap.size,0,none⟩ 2 2 [_,_] rfl rfl (Zc4 _ _ _ _) (by intro u D;simp at D;rcases D with rfl|rfl<;>rfl) (by unfold maxLen;omega) (by omega) (by simp;omega) ?_;intro Z w5 j C _)
  have J:=Zad (((Below.refl B w)).alloc hB (.cells #[.int .u8 (u % 256),.int .u8 (u / 256)] 5)) (q.alloc _) C (by simp;omega) NL;have X:=(Zah.alloc _ _).trans (Zah.grown (q.alloc (.cells #[.int .u8 (u % 256),.int .u8 (u / 256)] 5)) C);have ah:w5.cell? ⟨b,1,none⟩=some (.int .i32 t):=by
   rw[Zm6 C (by simp;omega) U,World.cell?_alloc_lt w _ _ ab,hd]
  have ae:=J.size;rw[rounds_succ];go_wp2_with (at_builtin;refine wpList_append_own _ rfl _ _ 110 rfl B 5 i0 (.int .u8 0) 1 1 underlying110 hi O N L rfl (by decide) Z (n+2) _ rfl (j.alloc _) ⟨w5.heap.size,0,none⟩ 2 2 [_,_] rfl rfl (Zc4 _ _ _ _) (by intro u D;simp at D;rcases D with rfl|rfl<;>rfl) (by unfold maxLen;omega) (by omega) (by simp;omega) ?_;intro V w6 y I _)
  have Y:=Zad (J.alloc (by omega) (.cells #[.int .u8 (t % 256),.int .u8 (t / 256)] 5)) (j.alloc _) I (by simp;omega) NL;have W:=X.trans ((Zah.alloc _ _).trans (Zah.grown (j.alloc (.cells #[.int .u8 (t % 256),.int .u8 (t / 256)] 5)) I));rw[rounds_succ];go_wp2_with fail
  go_ret
  exact⟨V,rfl,y,Y,W⟩
 ·go_wp2_with (at_builtin;refine wpList_append_own _ rfl _ _ 110 rfl B 5 i0 (.int .u8 0) 1 1 underlying110 hi O N L rfl (by decide) v n _ rfl (q.alloc _) ⟨w.heap.size,0,none⟩ 2 2 [_,_] rfl rfl (Zc4 _ _ _ _) (by intro u D;simp at D;rcases D with rfl|rfl<;>rfl) (by unfold maxLen;omega) (by omega) (by simp;omega) ?_;intro Z w5 j C _)
  have J:=Zad (((Below.refl B w)).alloc hB (.cells #[.int .u8 (u / 256),.int .u8 (u % 256)] 5)) (q.alloc _) C (by simp;omega) NL;have X:=(Zah.alloc _ _).trans (Zah.grown (q.alloc (.cells #[.int .u8 (u / 256),.int .u8 (u % 256)] 5)) C);have ah:w5.cell? ⟨b,1,none⟩=some (.int .i32 t):=by
   rw[Zm6 C (by simp;omega) U,World.cell?_alloc_lt w _ _ ab,hd]
  have ae:=J.size;rw[rounds_succ];go_wp2_with (at_builtin;refine wpList_append_own _ rfl _ _ 110 rfl B 5 i0 (.int .u8 0) 1 1 underlying110 hi O N L rfl (by decide) Z (n+2) _ rfl (j.alloc _) ⟨w5.heap.size,0,none⟩ 2 2 [_,_] rfl rfl (Zc4 _ _ _ _) (by intro u D;simp at D;rcases D with rfl|rfl<;>rfl) (by unfold maxLen;omega) (by omega) (by simp;omega) ?_;intro V w6 y I _)
  have Y:=Zad (J.alloc (by omega) (.cells #[.int .u8 (t / 256),.int .u8 (t % 256)] 5)) (j.alloc _) I (by simp;omega) NL;have W:=X.trans ((Zah.alloc _ _).trans (Zah.grown (j.alloc (.cells #[.int .u8 (t / 256),.int .u8 (t % 256)] 5)) I));rw[rounds_succ];go_wp2_with fail
  go_ret
  exact⟨V,rfl,y,Y,W⟩
def Zsv(big:Bool)(ps:List Int)(w0:World)(O:Obj)(v i:Value)(wr:World):Prop:=
 ∃k j:Nat,Zbl big ps k j/\i=.int .i64 j/\wr.ownsRow (w0.heap.size+1) 5 1 v (ZE (ps.take k)).length ((ZE (ps.take k)).map (Value.int .u8))/\Below (w0.heap.size+1) (w0.alloc O) wr
def Zek.sgn{big:Bool}{s:ByteArray}{ps:List Int}{k i n:Nat}{p:Int}(h:Zek big s ps k i p n)(q:i<=s.size)(hs:s.size<=140737488355328)(w:World):
 Calls prog 189 #[.string s,.int .i64 i,.bool big] w λe w'=>e=.returned (.tuple #[.int .i32 p,.int .i64 n])/\Below w.heap.size w w':=by
 have j:=Zlp s i q hs big w;rw[h.sign] at j;exact j
def ZrQ{big:Bool}{s:ByteArray}{i:Nat}(hd:(Zv big (s.data.toList.drop i)).2=0)(q:i<=s.size)(hs:s.size<=140737488355328)(w:World):
 Calls prog 189 #[.string s,.int .i64 i,.bool big] w λe w'=>(∃x,e=.returned (.tuple #[.int .i32 x,.int .i64 0]))/\Below w.heap.size w w':=by
 have j:=Zlp s i q hs big w;rw[hd] at j;exact j.mono λe w' ⟨he,hb⟩=>⟨⟨_,he⟩,hb⟩
def ZlH(big:Bool)(s:ByteArray)(ps:List Int)(r:List UInt8)(hp:Zej big s ps r)(hr:r=[]\/(Zv big r).2=0)(hs:s.size<=35184372088000)(w:World):
 Calls prog 123 #[.string s,.bool big] w λe w'=>
  ((r=[]/\e=.returned (.tuple #[.string ⟨(Zd ps).toArray⟩,.agg #[.int .i64 0,.int .i64 0]]))\/(r≠[]/\e=.returned (.tuple #[.string ⟨#[]⟩,.agg #[.int .i64 2,.int .i64 (Zx big ps).length]])))/\Below w.heap.size w w':=by
 go_enter func123,ntmps123
 go_wp2_with fail
 go_loopw [6,7] (λv i wr=>Zsv big ps w (.cells #[.int .i64 0,.int .i64 0] 34) v i wr) (λ_ i _=>s.size - (intOf i).toNat)
 case atStart=>exact⟨0,0,Zbl.zero _ _,rfl,World.ownsRow_nil _ _ _ _,Below.refl _ _⟩
 case round=>
  obtain⟨k,i,q,rfl,D,hb⟩:=hrel;have aB:=q.le hp;have ah:=hb.size;have U:w.heap.size+1<=wr.heap.size:=by simpa using ah
  have ae:=(Zbp (ps.take k)).2;rw[List.length_take] at ae;have af:=ZhV (ps.take k);by_cases hk:k<ps.length
  ·obtain⟨p,n,ab,V,az,ay,aC,ax,aw⟩:=q.step hp hk;have ad:(ZE (ps.take k)).length+4<=140737488355328:=by omega
   have I:Hid ((ZE (ps.take (k+1))).map (Value.int .u8)=(ZE (ps.take k)).map (Value.int .u8)++Lib.runeCells p):=by
    rw[ab.snoc hk,ZhW,List.map_append];rfl
   have L:Hid ((ZE (ps.take (k+1))).length=(ZE (ps.take k)).length+(Lib.runeCells p).length):=by
    have:=congrArg List.length I.out;simp only[List.length_map,List.length_append] at this;exact this
   clear ae af;go_wp2_with (first|(go_at_call 189;refine MR (ab.sgn (by omega) (by omega) _) λw1 O=>?_;have C:=ZB D O;have J:=hb.trans (O.mono U);have j:=J.size)|(go_at_call 190;refine(utf8_AppendRune_plain _ _ _ _ p (by omega) (by omega) _ C ad (by simp at j;omega)).mono ?_;rintro e w2 ⟨v',rfl,y,o,ak⟩))
   have ao:=Zad (J.alloc (by simp at j;omega) o) (C.alloc o) ak (by simp at j⊢;omega) NL;rw[<-I.out,<-L.out] at y;go_roundw
   case rel=>exact⟨k+1,i+n,V,by go_num,y,ao⟩
   case measure=>simp[intOf];omega
  ·have aj:k=ps.length:=by omega
   subst aj;obtain⟨W,X,N⟩:=q.end_ hp;rw[List.take_length] at D;by_cases u:r=[]
   ·have aD:¬i<s.size:=by rw[u] at N;simp at N;omega
    have Y:=Zep (P:=prog) 110 9 5 underlying110 underlying5 underlying9 wr D;rw[ZhR] at Y;obtain⟨aa,Z,an,am,ac⟩:=Za6 hb;clear X N W;go_wp2_with fail
    refine bodyPost_ret (v:=.tuple #[.string ⟨(Zd ps).toArray⟩,.agg #[.int .i64 0,.int .i64 0]]) (by simp[results,results123,go_sem,aa,Z]) rfl ⟨.inl ⟨u,rfl⟩,?_⟩;exact((((Below.refl _ w).alloc NL _).trans (hb.mono (by omega))).setCell NL _).setCell NL _
   ·have aA:i<s.size:=by have:=List.length_pos_iff.2 u;omega
    have he:(Zv big (s.data.toList.drop i)).2=0:=by rw[X];exact hr.resolve_left u
    have Hi:=QQ W;clear X N W;go_wp2_with (go_at_call 189;refine(ZrQ he (by omega) (by omega) _).mono ?_;rintro e w1 ⟨⟨x,rfl⟩,O⟩;have J:=hb.trans (O.mono U);obtain⟨aa,Z,an,am,ac⟩:=Za6 J)
    refine bodyPost_ret (v:=.tuple #[.string ⟨#[]⟩,.agg #[.int .i64 2,.int .i64 i]]) (by simp[results,results123,go_sem,aa,Z]) rfl ⟨.inr ⟨u,by rw[<-Hi.out]⟩,?_⟩;exact((((Below.refl _ w).alloc NL _).trans (J.mono (by omega))).setCell NL _).setCell NL _
def ZlG(big:Bool)(s:ByteArray)(ps:List Int)(j:ZfR big s ps)(hs:s.size<=35184372088000)(w:World):
 Calls prog 123 #[.string s,.bool big] w λe w'=>e=.returned (.tuple #[.string ⟨(Zd ps).toArray⟩,.agg #[.int .i64 0,.int .i64 0]])/\Below w.heap.size w w':=by
 refine(ZlH big s ps [] j (.inl rfl) hs w).mono λe w' ⟨h,hb⟩=>?_;rcases h with⟨_,h⟩|⟨h,_⟩
 ·exact⟨h,hb⟩
 ·exact absurd rfl h
def ZlF(big:Bool)(s:ByteArray)(n:Nat)(u:ZfQ big s n)(hs:s.size<=35184372088000)(w:World):
 Calls prog 123 #[.string s,.bool big] w λe w'=>e=.returned (.tuple #[.string ⟨#[]⟩,.agg #[.int .i64 2,.int .i64 n]])/\Below w.heap.size w w':=by
 obtain⟨ps,r,q,rfl,j,he⟩:=u;refine(ZlH big s ps r q (.inr he) hs w).mono λ_ _ ⟨h,hb⟩=>?_;rcases h with⟨h,_⟩|⟨_,h⟩
 ·exact absurd h j
 ·exact⟨h,hb⟩
def ZsF{x:Int}(h0:0<=x)(j:x<1048576):bits .and .i32 x 1023=x % 1024:=
 bits_mask .i32 31 (by decide) wraps_i32 10 (by decide) x h0 (by omega)
def ZxK(big:Bool)(ps:List Int):(Zba big ps).length<=4*ps.length:=by
 have h:=(Zfi big ps).2;rw[<-ZpG,List.length_map] at h;exact h
def EncRel(big:Bool)(ps:List Int)(s:ByteArray)(w0:World)(O:Obj)(K:Nat)(v:Value)(wr:World):Prop:=
 ∃k i:Nat,Run ps k i/\wr.heap[K]?=some (.stringIter s i)/\wr.ownsRow (w0.heap.size+1) 5 1 v (Zba big (ps.take k)).length ((Zba big (ps.take k)).map (Value.int .u8))/\Below (w0.heap.size+1) (w0.alloc O) wr
def Zsw(big:Bool)(s:ByteArray)(ps:List Int)(hg:Good s ps)(hs:s.size<=35184372088000)(w:World)(hT:Zo w):
 Calls prog 246 #[.string s,.bool big] w λe w'=>e=.returned (.tuple #[.string ⟨(Zx big ps).toArray⟩,.agg #[.int .i64 0,.int .i64 0]])/\Below w.heap.size w w':=by
 have aK:=hg.len;have hp:=hg.pre;go_enter func246,ntmps246
 go_wp2_with (go_at_call 152;refine MR (Zia s ps hg (by omega) _ (by first|exact hT|exact ZK hT _)) λw1 C=>?_;have aT:=ZY C;have ao:=C.mono (B':=w.heap.size+1) (by simp);obtain⟨ae,ad,au,aq,Z⟩:=Za6 ao)
 refine MR (Zed _ _ _) λD ak=>?_;have aS:=ZY ak;have aJ:=(ao.alloc (by omega) _).trans (ak.mono (by simp;omega));have hit:=World.iter_heap D s 0;have aL:(D.alloc (.stringIter s 0)).heap.size=D.heap.size+1:=by simp
 have aI:=aJ.alloc (o:=.stringIter s 0) (by omega);clear C ae ad au aq Z ak ao;go_wp2_with fail
 go_loopw [7] (λv wr=>EncRel big ps s w (.cells #[.int .i64 0,.int .i64 0] 34) D.heap.size v wr) (λ_ wr=>s.size+1 - wr.iterPos D.heap.size)
 case atStart=>exact⟨0,0,Run.zero _,hit,World.ownsRow_nil _ _ _ _,aI⟩
 case round=>
  obtain⟨k,i,J,hK,q,af⟩:=hrel;have aX:=J.le hp;have aP:=Zfg hK;have an:=ZxK big (ps.take k);rw[List.length_take] at an;by_cases hk:k<ps.length
  ·obtain⟨p,n,V,I,aW,aV,aY,aC,aU,_⟩:=J.step hp hk;have ay:=λty=>Zge (P:=prog) V (by omega) wr D.heap.size hK ty;have u:=ZjD q hK (i+n);have ax:=Lib.iterAt_heap wr D.heap.size s i (i+n) hK;have C:=Lib.below_iterAt af (k:=D.heap.size) (by omega) s (i+n);have X:(wr.iterAt D.heap.size s (i+n)).heap.size=wr.heap.size:=Lib.iterAt_size _ _ _ _;have Y:=ZcO hK;have az:=V.2.2.2;have L:Hid ((Zba big (ps.take (k+1))).map (Value.int .u8)=(Zba big (ps.take k)).map (Value.int .u8)++(Zeb big p).map (Value.int .u8)):=by
    rw[V.snoc hk,ZpH,List.map_append];rfl
   have y:Hid ((Zba big (ps.take (k+1))).length=(Zba big (ps.take k)).length+(Zeb big p).length):=by
    rw[V.snoc hk,ZpH,List.length_append];rfl
   have aN:(Zba big (ps.take k)).length+4<=140737488355328:=by omega
   rw[Zar] at az;clear an;generalize hW:wr.iterAt D.heap.size s (i+n)=W at*;have aw:w.heap.size+1<=W.heap.size:=by omega
   by_cases N:p<65536
   ·have hj:=ZqL big p ⟨aC,N⟩ W.heap.size 1 (w.heap.size+1) _ _ _ (W.alloc (.cells #[.int .i32 p] 21)) (u.alloc _) (cell_one_new W (.int .i32 p) 21 0 _ rfl) (by omega) (by simp;omega);rw[X] at hj;have O:Hid (Zeb big p=ZcG big p):=if_pos N;have ah:=C.alloc (o:=.cells #[.int .i32 p] 21) aw;have am:=Zah.alloc W (.cells #[.int .i32 p] 21) _ _ _ ax;go_wp2_with (go_at_call 294;refine hj.mono ?_;rintro e w5 ⟨v',rfl,j,aj,ab⟩)
    have U:=ab _ _ _ am;have ai:=ah.trans aj;rw[<-O.out,<-L.out] at j;have aa:(Zba big (ps.take k)).length+2=(Zba big (ps.take (k+1))).length:=by
     rw[y.out,O.out];unfold ZcG;split<;>rfl
    rw[aa] at j;refine⟨⟨k+1,i+n,I,U,j,ai⟩,?_⟩;rw[Y,ZcO U];omega
   ·have aB:0<=p - 65536:=by omega
    have aA:p - 65536<1048576:=by omega
    have aO:=ZsF aB aA;have hj:=ZqM big (55296+(p - 65536) / 1024) (56320+(p - 65536) % 1024) (by omega) (by omega) W.heap.size 2 (w.heap.size+1) _ _ _ (W.alloc (.cells #[.int .i32 (55296+(p - 65536) / 1024),.int .i32 (56320+(p - 65536) % 1024)] 21)) (u.alloc _) (Zc4 W _ _ 21 0 _ rfl) (Zc4 W _ _ 21 1 _ rfl) (λh=>by have:=own_lt u h;omega) (by omega) (by simp;omega);rw[X] at hj;have O:Hid (Zeb big p=ZcG big (55296+(p - 65536) / 1024)++ZcG big (56320+(p - 65536) % 1024)):=if_neg N;have ah:=C.alloc (o:=.cells #[.int .i32 (55296+(p - 65536) / 1024),.int .i32 (56320+(p - 65536) % 1024)] 21) aw;have am:=Zah.alloc W (.cells #[.int .i32 (55296+(p - 65536) / 1024),.int .i32 (56320+(p - 65536) % 1024)] 21) _ _ _ ax;go_wp2_with (go_at_call 294;refine hj.mono ?_;rintro e w5 ⟨v',rfl,j,aj,ab⟩)
    have U:=ab _ _ _ am;have ai:=ah.trans aj;rw[List.append_assoc,<-List.map_append,<-O.out,<-L.out] at j;have aa:(Zba big (ps.take k)).length+2+2=(Zba big (ps.take (k+1))).length:=by
     rw[y.out,O.out];unfold ZcG;split<;>rfl
    rw[aa] at j;refine⟨⟨k+1,i+n,I,U,j,ai⟩,?_⟩;rw[Y,ZcO U];omega
  ·have aE:k=ps.length:=by omega
   subst aE;obtain⟨hi,_,aG⟩:=J.end_ hp;have aM:=λty=>Lib.run_next_end_at (P:=prog) wr D.heap.size s i ty hK (by simp at aG;omega);obtain⟨ae,ad,au,aq,Z⟩:=Za6 af;rw[List.take_length] at q;have ac:=Zep (P:=prog) 110 9 5 underlying110 underlying5 underlying9 wr q;rw[ZwN] at ac;clear an;go_wp2_with fail
   refine bodyPost_ret (v:=.tuple #[.string ⟨(Zx big ps).toArray⟩,.agg #[.int .i64 0,.int .i64 0]]) (by simp[results,results246,go_sem,ae,ad]) rfl ⟨rfl,?_⟩;exact(((((Below.refl _ w).alloc NL _).trans (af.mono (by omega))).setCell NL _).setCell NL _)
def Zai(l:List UInt8):Bool:=l.take 2==[254,255]
def Zci(l:List UInt8):Bool:=l.take 2==[254,255]||l.take 2==[255,254]
def Zo7(s:ByteArray)(h:¬1<s.size):Zai s.data.toList=false/\Zci s.data.toList=false:=by
 have j:s.data.toList.length=s.size:=by simp
 generalize s.data.toList=l at*
 match l,j with
 |[],_=>decide
 |[x],_=>simp[Zai,Zci]
 |_::_::_,h=>simp at h;omega
def ZtR(s:ByteArray):(s.extract 0 2).toList=s.data.toList.take 2:=by
 rw[ByteArray.toList_eq];simp[ByteArray.data_extract,Array.toList_extract,List.extract]
def ZfI(s:ByteArray)(hs:s.size<=140737488355328)(w:World):
 Calls prog 247 #[.string s] w λe w'=>e=.returned (.tuple #[.bool (Zai s.data.toList),.bool (Zci s.data.toList)])/\Below w.heap.size w w':=by
 by_cases C:1<s.size
 ·have j:=QQ (ZtR s);go_enter func247,ntmps247
  go_wp2_with fail
  all_goals go_ret2
  all_goals refine⟨?_,Below.refl _ _⟩
  all_goals rename_i q
  all_goals rw[j.out] at q
  ·simp[Zai,Zci,q]
  ·simp only[Zai,Zci,j.out];rfl
 ·obtain⟨y,u⟩:=Zo7 s C;have I:=QQ y;have D:=QQ u;clear y u;rw[I.out,D.out];go_enter func247,ntmps247
  go_wp2_with fail
  go_ret2
  exact⟨rfl,Below.refl _ _⟩
def Zpa(w:World)(o:Obj):(w.alloc o).heap.size=w.heap.size+1:=by simp
def ZqT(w:World):
 Calls prog 178 #[.string ⟨#[]⟩] w λe w'=>e=.returned (.tuple #[.string ⟨#[]⟩,.agg #[.int .i64 0,.int .i64 0]])/\Below w.heap.size w w':=by
 go_enter func178,ntmps178
 go_wp2_with fail
 refine bodyPost_ret (v:=.tuple #[.string ⟨#[]⟩,.agg #[.int .i64 0,.int .i64 0]]) (by simp[results,results178,go_sem]) rfl ⟨rfl,?_⟩;exact(Below.refl w.heap.size w).alloc NL _
def Zjv(s:ByteArray)(h0:0<s.size):s.toList.isEmpty=false:=by
 rw[ByteArray.toList_eq];have j:s.data.toList.length=s.size:=by simp
 generalize s.data.toList=l at*
 match l,j with
 |[],j=>simp at j;omega
 |_::_,_=>rfl
def ZqV(s:ByteArray)(h0:0<s.size)(hs:s.size<=35184372088000)(J:Zci s.data.toList=false)(w:World):
 Calls prog 178 #[.string s] w λe w'=>e=.returned (.tuple #[.string ⟨#[]⟩,.agg #[.int .i64 2,.int .i64 0]])/\Below w.heap.size w w':=by
 have C:=λw=>ZfI s (by omega) w;rw[J] at C;have I:=Zjv s (by omega);go_enter func178,ntmps178
 go_wp2_with (go_at_call 247;refine MR (C _) λO j=>?_;have D:=ZY j;obtain⟨u,q,N,L,y⟩:=Za6 (j.mono (by simp)))
 refine bodyPost_ret (v:=.tuple #[.string ⟨#[]⟩,.agg #[.int .i64 2,.int .i64 0]]) (by simp[results,results178,go_sem,u,q]) rfl ⟨rfl,?_⟩;exact((((Below.refl _ w).alloc NL _).trans (j.mono (by simp))).setCell NL _).setCell NL _
def Znj{s:ByteArray}(h:Zci s.data.toList=true):2<=s.size:=by
 by_cases j:1<s.size
 ·exact j
 ·rw[(Zo7 s j).2] at h;cases h
def behind(s:ByteArray):ByteArray:=s.extract 2 s.size
def ZiC(s:ByteArray):(behind s).size=s.size - 2:=by simp[behind]
def ZqU(s:ByteArray)(ps:List Int)(U:Zci s.data.toList=true)(O:ZfR (Zai s.data.toList) (behind s) ps)(hs:s.size<=35184372088000)(w:World):
 Calls prog 178 #[.string s] w λe w'=>e=.returned (.tuple #[.string ⟨(Zd ps).toArray⟩,.agg #[.int .i64 0,.int .i64 0]])/\Below w.heap.size w w':=by
 have h2:=Znj U;have X:=λw=>ZfI s (by omega) w;rw[U] at X;have hd:=λw=>ZlG (Zai s.data.toList) (behind s) ps O (by rw[ZiC s];omega) w;unfold behind at hd;have Z:=Zjv s (by omega);clear O;generalize Zai s.data.toList=big at*;go_enter func178,ntmps178
 go_wp2_with (first|(go_at_call 247;refine MR (X _) λw1 q=>?_;have D:=ZY q;have N:=q.mono (B':=w.heap.size+1) (by simp))|(go_at_call 123;refine MR (hd _) λw2 L=>?_;have y:=N.trans (L.mono D);have C:=y.size))
 refine MR (Zed _ _ _) λw3 j=>?_;simp only[Zpa] at C;have Y:=ZY j;obtain⟨af,ae,ad,ac,W⟩:=Za6 (j.mono (by simp));have u:=(y.alloc (by omega) _).trans (j.mono (by simp;omega));obtain⟨J,I,ab,aa,V⟩:=Za6 u;go_wp2_with fail
 go_region
 go_wp2_with fail
 refine bodyPost_ret (v:=.tuple #[.string ⟨(Zd ps).toArray⟩,.agg #[.int .i64 0,.int .i64 0]]) (by simp[results,results178,go_sem,J,I]) rfl ⟨rfl,?_⟩;exact(((((Below.refl _ w).alloc NL _).trans (u.mono (by omega))).setCell NL _).setCell NL _).drew
def ZqS(s:ByteArray)(n:Nat)(U:Zci s.data.toList=true)(I:ZfQ (Zai s.data.toList) (behind s) n)(hs:s.size<=35184372088000)(w:World):
 Calls prog 178 #[.string s] w λe w'=>e=.returned (.tuple #[.string ⟨#[]⟩,.agg #[.int .i64 2,.int .i64 (n+2)]])/\Below w.heap.size w w':=by
 have h2:=Znj U;have X:=λw=>ZfI s (by omega) w;rw[U] at X;have hn:n<=s.size:=by
  obtain⟨ps,r,h1,h3,_,_⟩:=I;have:=congrArg List.length h1.1;rw[List.length_append,<-h3] at this;have hl:(behind s).data.toList.length=(behind s).size:=by simp
  rw[hl,ZiC] at this;omega
 have hd:=λw=>ZlF (Zai s.data.toList) (behind s) n I (by rw[ZiC s];omega) w;unfold behind at hd;have aa:=Zjv s (by omega);clear I;generalize Zai s.data.toList=big at*;go_enter func178,ntmps178
 go_wp2_with (first|(go_at_call 247;refine MR (X _) λw1 q=>?_;have D:=ZY q;have O:=q.mono (B':=w.heap.size+1) (by simp))|(go_at_call 123;refine MR (hd _) λY N=>?_;have y:=O.trans (N.mono D);have C:=y.size))
 refine MR (Zed _ _ _) λw3 j=>?_;simp only[Zpa] at C;have Z:=ZY j;obtain⟨ai,ah,af,ae,W⟩:=Za6 (j.mono (by simp));have u:=(y.alloc (by omega) _).trans (j.mono (by simp;omega));obtain⟨L,J,ad,ac,V⟩:=Za6 u;go_wp2_with fail
 go_region
 go_wp2_with fail
 refine bodyPost_ret (v:=.tuple #[.string ⟨#[]⟩,.agg #[.int .i64 2,.int .i64 (n+2)]]) (by simp[results,results178,go_sem,L,J]) rfl ⟨rfl,?_⟩;exact((((((Below.refl _ w).alloc NL _).trans (u.mono (by omega))).setCell (p:=⟨Y.heap.size,1,none⟩) (by simp;omega) _).setCell (p:=⟨w.heap.size,0,none⟩) NL _).setCell (p:=⟨w.heap.size,1,none⟩) NL _).drew
def Znn(a b:List UInt8):Lib.join [a,b] []=a++b:=by simp[Lib.join]
def Zq7(a b:ByteArray)(c:Nat)(w:World)(u:Nat)(h0:w.cell? ⟨u,0,none⟩=some (.string a))(J:w.cell? ⟨u,1,none⟩=some (.string b))(I:2<=c)(N:a.size+b.size<=35184372089000):
 Calls prog 35 #[.slice (some ⟨u,0,none⟩) 2 c] w λe w'=>e=.returned (.string ⟨(a.data.toList++b.data.toList).toArray⟩)/\Below w.heap.size w w':=by
 have D:Calls prog 67 #[.slice (some ⟨u,0,none⟩) 2 c,.string ⟨#[]⟩] w λe w'=>e=.returned (.string ⟨(a.data.toList++b.data.toList).toArray⟩)/\Below w.heap.size w w':=by
  have C:=strings_Join u 0 c [a,b] ⟨#[]⟩ w (by
   intro j x q
   match j,q with
   |0,q=>simp at q;subst q;exact h0
   |1,q=>simp at q;subst q;exact J) (Zl6 h0) (by simp) I (by simp[Znn];omega)
  simpa[Znn] using C
 go_enter func35,ntmps35
 go_wp2_with (go_at_call 67;refine D.mono ?_;rintro e L ⟨rfl,y⟩)
 go_ret
 exact⟨rfl,y⟩
def Zsy(s:ByteArray)(ps:List Int)(V:Good s ps)(hs:s.size<=8796093022000)(w:World)(hT:Zo w):
 Calls prog 176 #[.string s] w λe w'=>e=.returned (.tuple #[.string ⟨([255,254]++Zx false ps).toArray⟩,.agg #[.int .i64 0,.int .i64 0]])/\Below w.heap.size w w':=by
 have U:=V.len;have aa:=(Zfi false ps).2;have J:(⟨(Zx false ps).toArray⟩:ByteArray).size=(Zx false ps).length:=rfl;have af:(⟨(Zx false ps).toArray⟩:ByteArray).data.toList=Zx false ps:=rfl;have hE:=λ(w:World) (hT:Zo w)=>Zsw false s ps V (by omega) w hT;generalize hX:(⟨(Zx false ps).toArray⟩:ByteArray)=X at*;go_enter func176,ntmps176
 go_wp2_with (go_at_call 246;refine MR (hE _ (ZK hT _)) λw1 u=>?_;have Z:=ZY u;have N:=u.mono (B':=w.heap.size+1) (by simp))
 refine MR (Zed _ _ _) λC q=>?_;have Y:=ZY q;have L:=(N.alloc (by omega) _).trans (q.mono (by simp;omega));have hj:=λc hc=>Zq7 ⟨#[255,254]⟩ X c (C.alloc (.cells #[.string ⟨#[255,254]⟩,.string X] 9)) C.heap.size (Zc4 C _ _ 9 0 _ rfl) (Zc4 C _ _ 9 1 _ rfl) hc (by rw[J];simp[ByteArray.size];omega);go_wp2_with (go_at_call 35;refine MR (hj _ (by decide)) λw4 j=>?_;have W:=ZY j;have y:=(L.alloc (by omega) _).trans (j.mono (by simp;omega));obtain⟨I,D,ad,ac,O⟩:=Za6 y)
 refine bodyPost_ret (v:=.tuple #[.string ⟨([255,254]++Zx false ps).toArray⟩,.agg #[.int .i64 0,.int .i64 0]]) (by simp[results,results176,go_sem,I,D]) rfl ⟨rfl,?_⟩;exact((((Below.refl _ w).alloc NL _).trans (y.mono (by omega))).setCell NL _).setCell NL _
