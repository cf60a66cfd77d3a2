/- Lemmas for a statement on the tops; conditions: as each says. -/
import Derived.Lib.EndianBits
import Derived.Test.YtjilfbhkdjanhaaGreatDoorM24
set_option linter.all false
set_option maxRecDepth 100000
set_option maxHeartbeats 4000000
open Go.Proofs.Tryz
namespace Go.Proofs.YtjilfbhkdjanhaaGreatDoor
open Go Go.RowKit
def PrsL(w:World)(B:Nat)(A:Option Addr)(l:List Pr):Prop:=Reads w B 2 A l.length (l.flatMap prV)
def ZmR:∀(l:List Pr) (k i:Nat) (x:Pr),l[k]?=some x->i<2->(l.flatMap prV)[k*2+i]?=(prV x)[i]?
 |[],k,i,x,h,_=>by simp at h
 |a::l,0,i,x,h,j=>by
  simp at h;subst h;rw[List.flatMap_cons,Nat.zero_mul,Nat.zero_add,List.getElem?_append_left (by simpa[prV] using j)]
 |a::l,k+1,i,x,h,j=>by
  rw[List.flatMap_cons,List.getElem?_append_right (by simp[prV];omega),show(prV a).length=2 from rfl,show(k+1)*2+i - 2=k*2+i by omega];exact ZmR l k i x (by simpa using h) j
def PrsL.pair{w:World}{B:Nat}{A:Option Addr}{l:List Pr}(h:PrsL w B A l){k:Nat}{x:Pr}(D:l[k]?=some x):
 ∃q,A=some q/\q.block<B/\w.cell? (q.add (k*2))=some (.int .i64 (x.1:Int))/\w.cell? ⟨(q.add (k*2)).block,(q.add (k*2)).off+1,none⟩=some (.int .i32 x.2)/\∀j u,(prV x)[j]?=some u->w.cell? ((q.add (k*2)).add j)=some u:=by
 have J:k<l.length:=(List.getElem?_eq_some_iff.1 D).1;obtain⟨q,U,hb,O⟩:=h.2 (by omega);have C:∀i u,(prV x)[i]?=some u->i<2->w.cell? (q.add (k*2+i))=some u:=λi u y N=>O _ _ ((ZmR l k i x D N).trans y);have g0:=C 0 _ rfl (by omega);have I:=C 1 _ rfl (by omega);rw[Nat.add_zero] at g0;rw[Zg0 _ _ _ (by omega)] at I;refine⟨q,U,hb,g0,I,λj u y=>?_⟩;have L:j<2:=by have:=(List.getElem?_eq_some_iff.1 y).1;exact this
 rw[Ziz];exact C j u y L
def Zdl(w:World)(B:Nat)(A:Option Addr)(l:List Pce):Prop:=Reads w B 4 A l.length (l.flatMap pV)
def Zdl.below{w w':World}{B:Nat}{A:Option Addr}{l:List Pce}(h:Zdl w B A l)(hb:Below B w w'):Zdl w' B A l:=Reads.below h hb
def Zdl.more{w:World}{B B':Nat}{A:Option Addr}{l:List Pce}(h:Zdl w B A l)(hb:B<=B'):Zdl w B' A l:=Reads.more h hb
def mdL(l:List Pce):List Pr:=match ZbI [] l 0 with
 | .inl M=>M
 | .inr _=>[]
def ZnI:∀(l:List Pce) (acc rs:List Rw) (i:Nat),Zau acc l i=.inl rs->rs.length<=acc.length+l.length
 |[],acc,rs,i,h=>by
  unfold Zau at h;injection h with h;subst h;simp
 |p::l,acc,rs,i,h=>by
  unfold Zau at h;split at h
  ·cases h
  ·split at h
   ·cases h
   ·have:=ZnI l _ _ _ h;simp at this⊢;omega
def TbR.nil(w:World)(B:Nat):TbR w B none []:=⟨⟨Reads.none_,λq h=>by cases h⟩,λx j=>by simp at j,by simp[Zei]⟩
def ftE(l:List Pce):Int:=match ZbI [] l 0 with
 | .inl _=>0
 | .inr _=>5
def ftA(l:List Pce):Int:=match ZbI [] l 0 with
 | .inl _=>0
 | .inr k=>(k:Int)
def Zil(l:List Pce)(w0:World)(e:Ending)(w':World):Prop:=∃A c rs,e=.returned (.tuple #[.agg #[.slice A rs.length c],.agg #[.int .i64 (ftE l),.int .i64 (ftA l)]])/\rs.length<=c/\rs.length<=4096/\TbR w' w'.heap.size A rs/\Zw rs=mdL l/\Below w0.heap.size w0 w'
def New_tb(l:List Pce)(A:Option Addr)(c:Nat)(Z:l.length<=4096)(y:∀p∈l,Zb8 p/\p.2.2.2.1.size<=1000000)(w:World)(hT:Zo w)(hA:Zdl w w.heap.size A l):
 Calls prog 273 #[.slice A l.length c] w (Zil l w):=by
 refine(Zq4 l A c Z y w hT hA).mono ?_;rintro e w' ⟨h,hb⟩;unfold Zil ftE ftA mdL;rcases ZnJ l [] [] 0 (λp Y=>(y p Y).1) Zw1 with⟨rs',M,j,L,h3⟩|⟨k,j,L⟩
 ·rw[L];rcases h with⟨W,c2,rs,⟨C,u,J,V⟩,U,O,N,rfl⟩|⟨k,u,_⟩
  ·rw[u] at j;injection j with j
   obtain⟨D,I⟩:=Zw2 (rs':=rs.map (·.1)) h3 (by rw[<-j];exact J.map _) (by rw[List.pairwise_map];exact V);have q:=ZnI l _ _ _ u;rw[List.length_map] at q;simp only[List.length_nil,Nat.zero_add] at q;exact⟨W,c2,rs,rfl,U,by have:=J.length_eq;omega,⟨O,λx X=>N x X,D⟩,I,hb⟩
  ·rw[u] at j;cases j
 ·rw[L];rcases h with⟨W,c2,rs,⟨C,u,J,V⟩,U,O,N,rfl⟩|⟨k2,u,rfl⟩
  ·rw[u] at j;cases j
  ·rw[u] at j;injection j with j;subst j
   exact⟨none,0,[],rfl,Nat.le_refl _,by simp,TbR.nil _ _,rfl,hb⟩
def TbR.set1{w:World}{B g:Nat}{A A0:Option Addr}{n0 V:Nat}{rs:List (Rw×Sl)}{T:TypeId}(h:TbR w B A rs)(N:w.heap[g]?=some (.cells #[.slice A0 n0 V] T (0,0)))(hT:T≠21)(v:Value):TbR (w.setCell ⟨g,0,none⟩ v) B A rs:=by
 refine⟨⟨⟨h.1.1.1,λh0=>?_⟩,h.1.2⟩,λx C=>⟨(h.2.1 x C).1,Zo3 (h.2.1 x C).2 v N hT⟩,h.2.2⟩;obtain⟨x,C⟩:∃x,rs[0]?=some x:=⟨_,List.getElem?_eq_getElem h0⟩
 obtain⟨W,y,_,q,_⟩:=h.row C;obtain⟨D,L,hb,U⟩:=h.1.1.2 h0;rw[L] at y;injection y with y;subst y
 have I:=h.1.2 D L;refine⟨D,L,hb,λj u O=>?_⟩;have J:D.block≠g:=by
  rintro rfl;rw[Zj5 I N] at q;rcases hi:D.off+0*4 with _|i
  ·rw[hi] at q;simp at q
  ·rw[hi] at q;simp at q
 rw[Zcv (by rw[Zbm];exact J)];exact U j u O
def Zbb(L:List Pr)(w0:World)(e:Ending)(w':World):Prop:=∃A c rs,e=.returned (.agg #[.slice A rs.length c])/\rs.length<=c/\rs.length<=4096/\TbR w' w'.heap.size A rs/\Zw rs=L/\Below w0.heap.size w0 w'
def ZvJ(w:World)(T:TypeId)(l:List Pce):Zdl (w.alloc (.cells (l.flatMap pV).toArray T)) (w.heap.size+1) (some ⟨w.heap.size,0,none⟩) l:=by
 refine⟨Zf2 pV Zn9 l,λ_=>⟨_,rfl,by simp,λj u y=>?_⟩⟩;have q:(⟨w.heap.size,0,none⟩:Addr).add j=⟨w.heap.size,j,none⟩:=by unfold Addr.add;split<;>simp_all
 rw[q,cell_of_row _ w.heap.size j _ T (0,0) (heap_alloc_new w _)];simpa using y
def Zup{c:UInt8}(h:0<=ZcA c):Lib.indexByte [48,49,50,51,52,53,54,55,56,57,65,66,67,68,69,70] c=ZcA c:=by
 have q:∀n:Fin 256,0<=ZcA (UInt8.ofNat n.1)->Lib.indexByte [48,49,50,51,52,53,54,55,56,57,65,66,67,68,69,70] (UInt8.ofNat n.1)=ZcA (UInt8.ofNat n.1):=by decide+kernel
 have j:=q ⟨c.toNat,c.toNat_lt⟩;rw[show UInt8.ofNat c.toNat=c by simp] at j;exact j h
def HxRel(j:ByteArray)(ps:List Int)(q:World)(K:Nat)(v:Value)(wr:World):Prop:=
 ∃k i:Nat,Run ps k i/\wr.heap[K]?=some (.stringIter j i)/\(∃V:Int,v=.int .i32 V/\(ps.take k).foldl (λp c=>p*16+ZcA c.toNat.toUInt8) 0=V/\0<=V/\V<16^k)/\Below K q wr
def SiRel(l:List UInt8)(w0:World)(v0 j:Value)(wr:World):Prop:=
 ∃(k:Nat) (s:ByteArray),5*k<=l.length/\v0=.string s/\s.data.toList=l.drop (5*k)/\wr.ownsRow w0.heap.size 5 1 j (ZE ((Z0 l).take k)).length ((ZE ((Z0 l).take k)).map (Value.int .u8))/\Below w0.heap.size w0 wr
def ext_list(s:ByteArray)(a b:Nat):(s.extract a b).data.toList=(s.data.toList.take b).drop a:=by
 rw[List.drop_take];simp
def Zuv{x y:Int}(j:0<=y)(q:y<16)(u:0<=x)(C:x<134217728):bits .or .i32 (x*16) y=x*16+y:=
 bits_join .i32 31 (by decide) (λn h0 D=>by simp[IntKind.wrap,IntKind.bits,IntKind.signed];omega) 4 (x*16) y (by omega) (by omega) (by omega) j q (by omega)
def ZrR(s:ByteArray)(hs:s.size<=100000)(an:Zbo s.data.toList=true)(w:World):
 Calls prog 276 #[.string s] w λe w'=>e=.returned (.string (tB (Z0 s.data.toList)))/\Below w.heap.size w w':=by
 have a3:s.data.toList.length=s.size:=by simp
 have HP:Hid (∀w',Below w.heap.size w w'->(λe w'=>e=Ending.returned (.string (tB (Z0 s.data.toList)))/\Below w.heap.size w w') (.returned (.string (tB (Z0 s.data.toList)))) w'):=QQ λw' hb=>⟨rfl,hb⟩
 generalize (λ(e:Ending) (w':World)=>e=Ending.returned (.string (tB (Z0 s.data.toList)))/\Below w.heap.size w w')=P at*;have az:=QQ an;clear an;go_enter func276,ntmps276
 go_wp2_with fail
 go_loopw [0,3] (λv0 v3 wr=>SiRel s.data.toList w v0 v3 wr) (λv0 _ _=>match v0 with| .string t=>t.size|_=>0)
 case atStart=>exact⟨0,s,by omega,rfl,rfl,⟨rfl,.inl ⟨rfl,rfl⟩⟩,Below.refl _ _⟩
 case round=>
  obtain⟨q,t,hk,rfl,ht,I,hb⟩:=hrel;have aC:t.data.toList.length=t.size:=by simp
  obtain⟨u,rfl⟩:∃u:World,u=wr:=⟨_,rfl⟩
  by_cases h5:5<=t.size
  ·obtain⟨a,b,c,d,e,r,hd⟩:=ZiX t.data.toList (by omega);have ho:=Zi9 q _ hk az.out;rw[<-ht,hd] at ho;unfold Zbo at ho;simp only[Bool.and_eq_true,List.all_cons,List.all_nil,decide_eq_true_eq,and_true] at ho;obtain⟨⟨⟨ha,ah,hc,ac⟩,aX⟩,_⟩:=ho;obtain⟨aD,a7⟩:=Zuq hk (ht.symm.trans hd);have h4:(t.extract 0 4).data.toList=[a,b,c,d]:=by rw[ext_list,hd];rfl
   have aW:(t.extract 0 4).size=4:=by simp;omega
   obtain⟨aI,ab⟩:=Zm3 [a,b,c,d] (λx hx=>by
    simp only[List.mem_cons,List.not_mem_nil,or_false] at hx;rcases hx with rfl|rfl|rfl|rfl
    ·exact(Zdt ha).1
    ·exact(Zdt ah).1
    ·exact(Zdt hc).1
    ·exact(Zdt ac).1)
   have hg:Good (t.extract 0 4) ([a,b,c,d].map λc:UInt8=>(c.toNat:Int)):=⟨h4.trans aI.symm,ab⟩
   have am:=hg.pre;have a9:decide ((5:Int)<=t.size)=true:=by simp;omega
   have hit:=World.iter_heap u (t.extract 0 4) 0;go_wp2_with fail
   go_loopw [4] (λv4 wx=>HxRel (t.extract 0 4) ([a,b,c,d].map λc:UInt8=>(c.toNat:Int)) u u.heap.size v4 wx) (λ_ wx=>5 - wx.iterPos u.heap.size)
   case atStart=>exact⟨0,0,Run.zero _,hit,⟨0,rfl,rfl,by decide,by decide⟩,(Below.refl _ _).alloc NL _⟩
   case round=>
    obtain⟨k,i,j,hK,⟨V,rfl,hV,aM,aL⟩,ae⟩:=hrel;have HV:=QQ hV;clear hV;have L:([a,b,c,d].map λc:UInt8=>(c.toNat:Int)).length=4:=rfl;by_cases O:k<([a,b,c,d].map λc:UInt8=>(c.toNat:Int)).length
    ·obtain⟨p,n,X,Y,a1,aZ,a4,aF,aY,_⟩:=j.step am O;have aE:=λty=>Zge (P:=prog) X (by omega) wr u.heap.size hK ty;obtain⟨Z,aa⟩:0<=ZcA p.toNat.toUInt8/\p<128:=by
      have hm:p∈[a,b,c,d].map λc:UInt8=>(c.toNat:Int):=by rw[X.2.2.1];exact Zeq O
      obtain⟨x,hx,rfl⟩:=List.mem_map.1 hm;rw[show((x.toNat:Int).toNat.toUInt8)=x from ZbN rfl];simp only[List.mem_cons,List.not_mem_nil,or_false] at hx;rcases hx with rfl|rfl|rfl|rfl
      ·exact⟨ha,by have:=(Zdt ha).1;omega⟩
      ·exact⟨ah,by have:=(Zdt ah).1;omega⟩
      ·exact⟨hc,by have:=(Zdt hc).1;omega⟩
      ·exact⟨ac,by have:=(Zdt ac).1;omega⟩
     obtain⟨_,aw⟩:=Zdt Z;have ap:=λW=>strings_IndexRune_ascii ⟨#[48,49,50,51,52,53,54,55,56,57,65,66,67,68,69,70]⟩ p W aF aa;rw[show(ByteArray.mk #[48,49,50,51,52,53,54,55,56,57,65,66,67,68,69,70]).data.toList=[48,49,50,51,52,53,54,55,56,57,65,66,67,68,69,70] from rfl,Zup Z] at ap;generalize hD:ZcA p.toNat.toUInt8=D at*;have HD:=QQ hD;clear hD;have bd:(16:Int)^k<=4096:=by
      have:(16:Nat)^k<=16^3:=Nat.pow_le_pow_right (by decide) (by rw[L] at O;omega)
      exact_mod_cast this
     go_wp2_with (go_at_call 209;refine(ap _).mono ?_;rintro e w5 ⟨rfl,rfl⟩)
     rw[Zuv Z aw aM (by omega)];have af:=Lib.below_iterAt ae (k:=u.heap.size) NL (t.extract 0 4) (i+n);have ay:=Lib.iterAt_heap wr u.heap.size (t.extract 0 4) i (i+n) hK;refine⟨⟨k+1,i+n,Y,ay,⟨V*16+D,rfl,?_,by omega,by rw[Int.pow_succ];omega⟩,af⟩,?_⟩
     ·rw[X.snoc O,List.foldl_append,HV.out];simp only[List.foldl_cons,List.foldl_nil];rw[HD.out]
     ·rw[ZcO hK,ZcO ay];omega
    ·have aH:k=([a,b,c,d].map λc:UInt8=>(c.toNat:Int)).length:=Nat.le_antisymm j.1 (by omega);subst aH;obtain⟨hi,_,aq⟩:=j.end_ am;have aP:=λty=>Lib.run_next_end_at (P:=prog) wr u.heap.size (t.extract 0 4) i ty hK (by simp at aq;omega);have aj:V=hexV [a,b,c,d]:=by
      rw[<-HV.out];unfold hexV;rw[List.take_length,List.foldl_map];have e:∀x:UInt8,x.toNat.toUInt8=x:=λx=>by simp
      simp only[Int.toNat_natCast,e]
     have aN:=QQ aj;clear aj hK hi aq j;rw[L] at aL;have a8:V<65536:=by omega
     have ax:(ZE ((Z0 s.data.toList).take q)).length+4<=140737488355328:=by
      have h1:=ZhV ((Z0 s.data.toList).take q);have h2:=(Zbp ((Z0 s.data.toList).take q)).2;rw[List.length_take] at h2;omega
     have J:Hid ((ZE ((Z0 s.data.toList).take (q+1))).map (Value.int .u8)=(ZE ((Z0 s.data.toList).take q)).map (Value.int .u8)++Lib.runeCells V):=by
      rw[aD,<-aN.out,ZhW,List.map_append];rfl
     have N:Hid ((ZE ((Z0 s.data.toList).take (q+1))).length=(ZE ((Z0 s.data.toList).take q)).length+(Lib.runeCells V).length):=by
      have:=congrArg List.length J.out;simp only[List.length_map,List.length_append] at this;exact this
     have y:=ZB I ae;have U:Below w.heap.size w wr:=hb.trans (ae.mono hb.size);go_wp2_with (go_at_call 190;refine(utf8_AppendRune_plain _ _ _ _ V (by omega) (by omega) _ y ax U.size).mono ?_;rintro e w2 ⟨v',rfl,C,o,ab⟩)
     have af:Below w.heap.size w w2:=Zad (U.alloc U.size o) (y.alloc o) ab (by have:=U.size;simp;omega) NL;rw[<-J.out,<-N.out] at C;have ba:(5:Int)<=t.size:=by omega
     go_wp2_with fail
     go_roundw
     case rel=>exact⟨q+1,t.extract 5 t.size,by have:=congrArg List.length ht;rw[List.length_drop,aC] at this;omega,rfl,by rw[ext_list,List.take_of_length_le (by omega),ht,List.drop_drop];rfl,C,af⟩
     case measure=>simp;omega
  ·have ao:=Zus (by rw[<-ht];omega) (Zi9 q _ hk az);have aO:¬((5:Int)<=t.size):=by omega
   have au:=(Zi7 q _ hk).1;rw[ao] at au;have aG:(Z0 s.data.toList).length<=q:=by
    have:=congrArg List.length au;rw[List.length_drop] at this;simp[Z0] at this;omega
   rw[List.take_of_length_le aG] at I;have ad:=Zep (P:=prog) 110 9 5 underlying110 underlying5 underlying9 u I;rw[ZhR] at ad;go_wp2_with fail
   exact HP _ hb
def ZrH(l:List Pce)(A:Option Addr)(c:Nat)(X:l.length<=4096)(I:∀p∈l,Zb8 p/\p.2.2.2.1.size<=1000000)(w:World)(hT:Zo w)(Z:Zdl w w.heap.size A l):
 Calls prog 224 #[.slice A l.length c] w (Zbb (mdL l) w):=by
 have hn:=λo=>New_tb l A c X I (w.alloc o) (ZK hT o) ((Z.below ((Below.refl _ _).alloc NL o)).more (by simp));have HP:Hid (∀A c rs w',rs.length<=c->rs.length<=4096->TbR w' w'.heap.size A rs->Zw rs=mdL l->Below w.heap.size w w'->Zbb (mdL l) w (.returned (.agg #[.slice A rs.length c])) w'):=QQ λA c rs w' O N L J hb=>⟨A,c,rs,rfl,O,N,L,J,hb⟩
 generalize Zbb (mdL l) w=P at*;generalize ftE l=fe at*;generalize ftA l=fa at*;unfold Zil at hn;go_enter func224,ntmps224
 go_wp2_with (go_at_call 273;refine(hn _).mono ?_;rintro e j ⟨y,C,rs,rfl,O,N,L,J,q⟩;have U:=QQ (Ze q);have D:=q.size;simp only[World.size_alloc] at D;have g0:w.heap.size<j.heap.size:=(by omega);have g1:w.heap.size<j.heap.size+1:=(by omega);obtain⟨b0,f0,_⟩:=bx q;have d0:=b0 0;have d1:=f0 0)
 refine bodyPost_ret (v:=.agg #[.slice y rs.length C]) (by simp[results,results224,go_sem,World.cell?_alloc_lt,g0,g1,d0]) rfl ?_;have Y:=Zy (heap_alloc_new w (.cells #[.slice none 0 0] 214)) q;have u:∀(j:World) W V,Below j.heap.size j ((j.alloc W).alloc V):=λj W V=>(((Below.refl _ j).alloc NL _).alloc (by simp) _)
 have h5:TbR (j.setCell ⟨w.heap.size,0,none⟩ (.slice y rs.length C)) (j.setCell ⟨w.heap.size,0,none⟩ (.slice y rs.length C)).heap.size y rs:=(L.set1 Y (by decide) _).more (by simp);exact HP y C rs _ O N ((h5.below (u _ _ _)).more (by simp only[World.size_alloc];omega)) J ((U.setCell NL _).trans ((u _ _ _).mono (by simp;omega)))
def ZgW{l:List Pce}{M:List Pr}(q:ZbI [] l 0=.inl M)(u:l.length<=4096)(j:∀p∈l,Zb8 p/\p.2.2.2.1.size<=1000000)(T:TypeId)(w:World)(hT:Zo w):
 Calls prog 224 #[.slice (some ⟨w.heap.size,0,none⟩) l.length l.length] (w.alloc (.cells (l.flatMap pV).toArray T)) (Zbb M (w.alloc (.cells (l.flatMap pV).toArray T))):=by
 have h:=ZrH l (some ⟨w.heap.size,0,none⟩) l.length u j _ (ZK hT (.cells (l.flatMap pV).toArray T)) ((ZvJ w T l).more (by simp));unfold mdL at h;rw[q] at h;exact h
def Zll(w:World):Calls prog 274 #[] w λe w'=>e=.returned (.agg #[.int .i64 0,.int .i32 0,.int .i64 128,.string ⟨#[]⟩])/\Below w.heap.size w w':=by
 go_enter func274,ntmps274
 go_wp2_with (go_at_call 225;refine MR (Zc2 0 0 128 _) λC j=>?_;obtain⟨⟨b0,b1,y,u⟩,L,J,I,D⟩:=bx4 j;have q:=QQ (Ze j);clear j)
 refine bodyPost_ret (v:=.agg #[.int .i64 0,.int .i32 0,.int .i64 128,.string ⟨#[]⟩]) (by simp[results,results274,go_sem,b0,b1,y,u]) rfl ⟨rfl,?_⟩;exact(((q.setCell NL _).setCell NL _).setCell NL _).setCell NL _
def eqB:List UInt8->List UInt8->Bool
 |[],[]=>true
 |a::l,b::r=>Nat.beq a.toNat b.toNat&&eqB l r
 |_,_=>false
def ZmH:∀(l r:List UInt8),eqB l r=true->l=r
 |[],[],_=>rfl
 |a::l,b::r,h=>by
  simp only[eqB,Bool.and_eq_true] at h;rw[ZmH l r h.2,UInt8.toNat_inj.1 (Nat.eq_of_beq_eq_true h.1)]
 |[],_::_,h=>by simp[eqB] at h
 |_::_,[],h=>by simp[eqB] at h
def lB(l:List UInt8):ByteArray:=⟨l.toArray⟩
def lit5(l:List UInt8)(d:Array UInt8)(h:eqB d.toList l=true):ByteArray.mk d=lB l:=by
 have:=ZmH _ _ h;unfold lB;rw[<-this]
def Zir{l:List UInt8}{ps:List Int}(h:Z0 l=ps/\Zbo l=true)(q:l.length<=100000)(w:World):
 Calls prog 276 #[.string (lB l)] w λe w'=>e=.returned (.string (tB ps))/\Below w.heap.size w w':=by
 have j:=ZrR (lB l) (show(lB l).size<=100000 from q) (by show Zbo l=true;exact h.2) w;rw[show Z0 (lB l).data.toList=ps from h.1] at j;exact j
def Zkf{w j:World}{A:Option Addr}{c:Nat}{rs:List (Rw×Sl)}(h:TbR j j.heap.size A rs)(hb:Below (w.alloc (.cells #[.slice none 0 0] 214)).heap.size (w.alloc (.cells #[.slice none 0 0] 214)) j):
 TbR (j.setCell ⟨w.heap.size,0,none⟩ (.slice A rs.length c)) (j.setCell ⟨w.heap.size,0,none⟩ (.slice A rs.length c)).heap.size A rs/\Below w.heap.size w (j.setCell ⟨w.heap.size,0,none⟩ (.slice A rs.length c)):=
 ⟨(h.set1 (Zy (heap_alloc_new w (.cells #[.slice none 0 0] 214)) hb) (by decide) _).more (by simp),(Ze hb).setCell NL _⟩
def Zlm(w:World)(hT:Zo w):Calls prog 226 #[] w (Zbb (Zz 1) w):=by
 have HP:Hid (∀A c rs w',rs.length<=c->rs.length<=4096->TbR w' w'.heap.size A rs->Zw rs=Zz 1->Below w.heap.size w w'->Zbb (Zz 1) w (.returned (.agg #[.slice A rs.length c])) w'):=QQ λA c rs w' h1 Z X V hb=>⟨A,c,rs,rfl,h1,Z,X,V,hb⟩
 generalize Zbb (Zz 1) w=P at*;have Y:=λW=>Zir koi_sg (by decide) W;have j:=λW h=>ZgW Zwm (by decide) Zwk 265 W h;rw[show(rusP.flatMap pV).toArray=#[.int .i64 0,.int .i32 0,.int .i64 128,.string ⟨#[]⟩,.int .i64 128,.int .i32 0,.int .i64 0,.string (tB ZeG)] from rfl,show rusP.length=2 from rfl] at j;unfold Zbb at j;refine calls_of_wp func226 rfl ?_;rw[lit5 koiB]
 rotate_left
 kernel_rfl
 generalize lB koiB=b1 at*;generalize tB ZeG=b2 at*;simp only[ntmps226,List.size_toArray,List.length_nil,Nat.reduceSub,Array.replicate_succ,Array.replicate_zero,List.push_toArray,List.append_toArray,List.nil_append,List.cons_append];go_wp2_with (first
  |(go_at_call 274;refine MR (Zll _) λw1 y=>?_;have U:=QQ y;have J:=ZaQ (ZK hT _) y NL)
  |(go_at_call 276;refine MR (Y _) λw2 u=>?_;have O:=QQ (U.trans (u.mono U.size));have I:=ZaQ J u NL)
  |(go_at_call 275;refine MR (Zii 128 _ _) λw3 q=>?_;have N:=QQ (O.trans (q.mono O.size));have D:=ZaQ I q NL)
  |(go_at_call 224;refine(j _ D).mono ?_;rintro e w4 ⟨A,c,rs,rfl,h1,Z,X,V,C⟩;have L:=QQ (N.trans ((Ze C).mono N.size));have H3:=QQ X;have H4:=QQ V;clear X V y u q C J I D;obtain⟨b0,f0,_⟩:=bx L.out;have d0:=b0 0;have d1:=f0 0;clear b0 f0))
 obtain⟨g1,g2⟩:=Zkf (c:=c) H3 L.out;refine bodyPost_ret (v:=.agg #[.slice A rs.length c]) (by simp[results,results226,go_sem,d0]) rfl ?_;exact HP A c rs _ h1 Z g1 H4 g2
def Znt:∀rs:List (Rw×Sl),(∀x∈rs,1<=x.1.2.1)->rs.length<=szR rs
 |[],_=>by simp
 |x::rs,h=>by
  have u:=Znt rs (λy j=>h y (List.mem_cons_of_mem _ j));have q:=h x (List.mem_cons_self ..);unfold szR at*;simp only[List.map_cons,List.sum_cons,List.length_cons];omega
def tb_len{w:World}{B:Nat}{A:Option Addr}{rs:List (Rw×Sl)}(h:TbR w B A rs):rs.length<=(Zw rs).length:=by
 have u:=Znt rs (λx j=>(h.2.1 x j).1.1);have q:=ZhS rs;unfold Zw;omega
def ZbY{w0 W j:World}(h:Hid (Below w0.heap.size w0 W/\Zo W))(hb:Below W.heap.size W j):Hid (Below w0.heap.size w0 j/\Zo j):=
 QQ ⟨h.1.trans (hb.mono h.1.size),ZaQ h.2 hb NL⟩
def ZrD(w:World)(hT:Zo w):Calls prog 228 #[] w (Zbb (Zz 3) w):=by
 have HP:Hid (∀A c rs w',rs.length<=c->rs.length<=4096->TbR w' w'.heap.size A rs->Zw rs=Zz 3->Below w.heap.size w w'->Zbb (Zz 3) w (.returned (.agg #[.slice A rs.length c])) w'):=QQ λA c rs w' h1 Z C y hb=>⟨A,c,rs,rfl,h1,Z,C,y,hb⟩
 generalize Zbb (Zz 3) w=P at*;have I:=λW=>Zir b0_sg (by decide) W;have D:=λW=>Zir f0_sg (by decide) W;have j:=λW h=>ZgW ZsE (by decide) ZsD 265 W h;rw[show(altP.flatMap pV).toArray=#[.int .i64 0,.int .i32 0,.int .i64 128,.string ⟨#[]⟩,.int .i64 128,.int .i32 1040,.int .i64 48,.string ⟨#[]⟩,.int .i64 176,.int .i32 0,.int .i64 0,.string (tB Zfd),.int .i64 224,.int .i32 1088,.int .i64 16,.string ⟨#[]⟩,.int .i64 240,.int .i32 0,.int .i64 0,.string (tB Zfn)] from rfl,show altP.length=5 from rfl] at j;unfold Zbb at j;refine calls_of_wp func228 rfl ?_;rw[lit5 b0B]
 rotate_left
 kernel_rfl
 rw[lit5 f0B]
 rotate_left
 kernel_rfl
 generalize lB b0B=b1 at*;generalize lB f0B=b2 at*;generalize tB Zfd=b3 at*;generalize tB Zfn=b4 at*;simp only[ntmps228,List.size_toArray,List.length_nil,Nat.reduceSub,Array.replicate_succ,Array.replicate_zero,List.push_toArray,List.append_toArray,List.nil_append,List.cons_append];have Y:Hid (Below (w.alloc (.cells #[.slice none 0 0] 214)).heap.size (w.alloc (.cells #[.slice none 0 0] 214)) (w.alloc (.cells #[.slice none 0 0] 214))/\Zo (w.alloc (.cells #[.slice none 0 0] 214))):=QQ ⟨Below.refl _ _,ZK hT _⟩;go_wp2_with (first
  |(go_at_call 274;refine MR (Zll _) λw1 X=>?_;have G1:=ZbY Y X)
  |(go_at_call 225;first
   |((with_reducible refine(Zc2 128 1040 48 _).mono ?_);rintro e w2 ⟨rfl,V⟩;have G2:=ZbY G1 V)
   |((with_reducible refine(Zc2 224 1088 16 _).mono ?_);rintro e w5 ⟨rfl,N⟩;have G5:=ZbY G4 N))
  |(go_at_call 276;first
   |((with_reducible refine(I _).mono ?_);rintro e w3 ⟨rfl,U⟩;have G3:=ZbY G2 U)
   |((with_reducible refine(D _).mono ?_);rintro e w6 ⟨rfl,L⟩;have G6:=ZbY G5 L))
  |(go_at_call 275;first
   |((with_reducible refine(Zii 176 b3 _).mono ?_);rintro e w4 ⟨rfl,O⟩;have G4:=ZbY G3 O)
   |((with_reducible refine(Zii 240 _ _).mono ?_);rintro e w7 ⟨rfl,J⟩;have G7:=ZbY G6 J))
  |(go_at_call 224;refine(j _ G7.2).mono ?_;rintro e w8 ⟨A,c,rs,rfl,h1,Z,C,y,q⟩;have u:=QQ (G7.1.trans ((Ze q).mono G7.1.size));have H3:=QQ C;have H4:=QQ y;clear C y q;obtain⟨b0,f0,_⟩:=bx u.out;have d0:=b0 0;have d1:=f0 0;clear b0 f0))
 obtain⟨g1,g2⟩:=Zkf (c:=c) H3 u.out;refine bodyPost_ret (v:=.agg #[.slice A rs.length c]) (by simp[results,results228,go_sem,d0]) rfl ?_;exact HP A c rs _ h1 Z g1 H4 g2
def ZrI(w:World)(hT:Zo w):Calls prog 227 #[] w (Zbb (Zz 2) w):=by
 have HP:Hid (∀A c rs w',rs.length<=c->rs.length<=4096->TbR w' w'.heap.size A rs->Zw rs=Zz 2->Below w.heap.size w w'->Zbb (Zz 2) w (.returned (.agg #[.slice A rs.length c])) w'):=QQ λA c rs w' h1 h2 h3 h4 hb=>⟨A,c,rs,rfl,h1,h2,h3,h4,hb⟩
 generalize Zbb (Zz 2) w=P at*;have L:=λW h=>ZgW Zxm (by decide) Zxl 265 W h;rw[show(ukrP.flatMap pV).toArray=#[.int .i64 164,.int .i32 1108,.int .i64 1,.string ⟨#[]⟩,.int .i64 166,.int .i32 1110,.int .i64 2,.string ⟨#[]⟩,.int .i64 173,.int .i32 1169,.int .i64 1,.string ⟨#[]⟩,.int .i64 180,.int .i32 1028,.int .i64 1,.string ⟨#[]⟩,.int .i64 182,.int .i32 1030,.int .i64 2,.string ⟨#[]⟩,.int .i64 189,.int .i32 1168,.int .i64 1,.string ⟨#[]⟩] from rfl,show ukrP.length=6 from rfl] at L;unfold Zbb at L;have an:Hid (Below (w.alloc (.cells #[.slice none 0 0] 214)).heap.size (w.alloc (.cells #[.slice none 0 0] 214)) (w.alloc (.cells #[.slice none 0 0] 214))/\Zo (w.alloc (.cells #[.slice none 0 0] 214))):=QQ ⟨Below.refl _ _,ZK hT _⟩;go_enter func227,ntmps227
 go_wp2_with (first
  |(go_at_call 225;first
   |((with_reducible refine(Zc2 164 1108 1 _).mono ?_);rintro e x0 ⟨rfl,j⟩;have G0:=ZbY an j;clear j)
   |((with_reducible refine(Zc2 166 1110 2 _).mono ?_);rintro e x1 ⟨rfl,j⟩;have G1:=ZbY G0 j;clear j)
   |((with_reducible refine(Zc2 173 1169 1 _).mono ?_);rintro e x2 ⟨rfl,j⟩;have G2:=ZbY G1 j;clear j)
   |((with_reducible refine(Zc2 180 1028 1 _).mono ?_);rintro e x3 ⟨rfl,j⟩;have G3:=ZbY G2 j;clear j)
   |((with_reducible refine(Zc2 182 1030 2 _).mono ?_);rintro e x4 ⟨rfl,j⟩;have G4:=ZbY G3 j;clear j)
   |((with_reducible refine(Zc2 189 1168 1 _).mono ?_);rintro e x5 ⟨rfl,j⟩;have G5:=ZbY G4 j;clear j))
  |(go_at_call 224;refine(L _ G5.2).mono ?_;rintro e q ⟨A,c,rs,rfl,h1,h2,h3,h4,V⟩;have D:=QQ (G5.1.trans ((Ze V).mono G5.1.size));have H3:=QQ h3;have H4:=QQ h4;clear h3 h4 V;obtain⟨b0,f0,az⟩:=bx D.out;have d0:=b0 0;have d1:=f0 0;clear b0 f0))
 have y:=((Below.refl q.heap.size q).alloc NL (.cells #[.slice A rs.length c] 214)).drew;have N:(q.alloc (.cells #[.slice A rs.length c] 214)).drew.cell? ⟨q.heap.size,0,none⟩=some (.slice A rs.length c):=cell_one_new q _ _ 0 _ rfl;have Y:Zo q:=ZaQ (ZK hT _) D NL;have X:=ZaQ Y y NL;have aa:=(H3.below y).more y.size;have ac:=QQ (D.trans (y.mono D.size));have U:q.heap.size<(q.alloc (.cells #[.slice A rs.length c] 214)).drew.heap.size:=by simp
 refine ZpE (λW=>W.cell? ⟨q.heap.size,0,none⟩=some (.slice A rs.length c)) [(0,true),(1,false),(2,false),(3,false)] (by kernel_rfl) (by kernel_rfl) (by kernel_rfl) (Nat.le_of_ble_eq_true rfl) (λ_ _ d _ _ h=>by cases d<;>exact h) N ?_;generalize (q.alloc (.cells #[.slice A rs.length c] 214)).drew=W0 at*;refine Zdw rfl (by rfl) (.agg #[.slice A rs.length c]) (λW aE=>by go_simp) ?_
 try simp only[Act.put,List.setIfInBounds_toArray,List.set_cons_zero,List.set_cons_succ]
 refine Zga rfl (by rfl) (λK hK=>?_)
 go_simp
 refine(Zlm W0 X).mono ?_;rintro e W1 ⟨A2,c2,ak,rfl,q1,q2,q3,q4,u⟩;have O:=(u.cell (p:=⟨q.heap.size,0,none⟩) U).trans N;have ab:=(aa.below u).more u.size;have af:=QQ (ac.trans (u.mono ac.size));have ao:=QQ q4;have ap:=u.size;clear N aa X y Y u q4;go_wp2_with fail
 refine hK _ _ O ?_;clear hK K
 try simp only[Act.put,List.setIfInBounds_toArray,List.set_cons_zero,List.set_cons_succ]
 refine Zga rfl (by rfl) (λK hK=>?_)
 go_simp
 refine(Zrd A A2 c c2 rs ak (by omega) (by omega) W1 ab q3).mono ?_;rintro e W2 ⟨A3,c3,J,rfl,r1,r2,r3,r4,C⟩;have Z:=(C.cell (p:=⟨q.heap.size,0,none⟩) (Nat.lt_of_lt_of_le U ap)).trans O;have I:=QQ (af.trans (C.mono af.size));have ae:=QQ (r4.trans (by rw[H4.out,ao.out,Zxn]));clear ab q3 O C r4;obtain⟨b0,f0,aA⟩:=bx I.out;have e0:=b0 0;have e1:=f0 0;clear b0 f0;go_wp2_with fail
 refine hK _ _ Z ?_;clear hK K
 try simp only[Act.put,List.setIfInBounds_toArray,List.set_cons_zero,List.set_cons_succ]
 refine Zga rfl (by rfl) (λK hK=>?_);have am:(W2.setCell ⟨w.heap.size,0,none⟩ (.slice A3 J.length c3)).cell? ⟨q.heap.size,0,none⟩=some (.slice A rs.length c):=(Zcv (by show q.heap.size≠w.heap.size;omega) _).trans Z;go_wp2_with fail
 refine hK _ _ am ?_;clear hK K
 try simp only[Act.put,List.setIfInBounds_toArray,List.set_cons_zero,List.set_cons_succ]
 refine Znu ?_;go_wp2_with fail
 obtain⟨g1,g2⟩:=Zkf (c:=c3) r3 I.out;refine bodyPost_ret (v:=.agg #[.slice A3 J.length c3]) (by simp[results,results227,go_sem,e0]) rfl ?_;exact HP A3 c3 J _ r1 (by have:=tb_len r3;rw[ae.out] at this;exact Nat.le_trans this (by decide)) g1 ae g2
def ZbA(c:Nat)(w0:World)(e:Ending)(w':World):Prop:=∃A cp rs,e=.returned (.tuple #[.agg #[.slice A rs.length cp,.int .i64 c],.bool true])/\rs.length<=cp/\rs.length<=4096/\TbR w' w'.heap.size A rs/\Zw rs=Zz c/\Below w0.heap.size w0 w'
def TbR.setS{w:World}{B g N:Nat}{A:Option Addr}{rs:List (Rw×Sl)}{T:TypeId}{cs:Array Value}(h:TbR w B A rs)(q:w.heap[g]?=some (.cells cs T (0,0)))(hs:cs.size<=3)(hT:T≠21)(v:Value):TbR (w.setCell ⟨g,N,none⟩ v) B A rs:=by
 refine⟨⟨⟨h.1.1.1,λh0=>?_⟩,h.1.2⟩,λx I=>⟨(h.2.1 x I).1,(h.2.1 x I).2.keep λk _ ⟨U,fr,hh⟩=>heap_set (by rintro rfl;rw[hh] at q;injection q with q;injection q with _ q _;exact hT q.symm) v⟩,h.2.2⟩;obtain⟨D,L,hb,J⟩:=h.1.1.2 h0;have y:=h.1.2 D L;refine⟨D,L,hb,λj u O=>?_⟩;have C:D.block≠g:=by
  rintro rfl;cases rs with
  |nil=>simp at h0
  |cons x rs=>
   have:=J 3 (slV x.2) rfl;rw[Zj5 y q,Array.getElem?_eq_none (by omega)] at this;cases this
 rw[Zcv (by rw[Zbm];exact C)];exact J j u O
def Zuo{w:World}{g:Nat}{a b:Value}{T:TypeId}(h:w.heap[g]?=some (.cells #[a,b] T (0,0)))(v:Value):(w.setCell ⟨g,0,none⟩ v).heap[g]?=some (.cells #[v,b] T (0,0)):=by
 rw[heap_setCell_same _ _ _ _ _ _ h];rfl
def ZhU{w j:World}{A:Option Addr}{c:Nat}{k:Int}{rs:List (Rw×Sl)}(h:TbR j j.heap.size A rs)(hb:Below (w.alloc (.cells #[.slice none 0 0,.int .i64 0] 216)).heap.size (w.alloc (.cells #[.slice none 0 0,.int .i64 0] 216)) j):
 TbR ((j.setCell ⟨w.heap.size,0,none⟩ (.slice A rs.length c)).setCell ⟨w.heap.size,1,none⟩ (.int .i64 k)) ((j.setCell ⟨w.heap.size,0,none⟩ (.slice A rs.length c)).setCell ⟨w.heap.size,1,none⟩ (.int .i64 k)).heap.size A rs/\Below w.heap.size w ((j.setCell ⟨w.heap.size,0,none⟩ (.slice A rs.length c)).setCell ⟨w.heap.size,1,none⟩ (.int .i64 k)):=by
 have q:=Zy (heap_alloc_new w (.cells #[.slice none 0 0,.int .i64 0] 216)) hb;exact⟨((h.setS q (by decide) (by decide) _).setS (Zuo q _) (by simp) (by decide) _).more (by simp),((Ze hb).setCell NL _).setCell NL _⟩
def SOf_1(w:World)(hT:Zo w):Calls prog 149 #[.int .i64 1] w (ZbA 1 w):=by
 have O:Hid (∀A c rs w',rs.length<=c->rs.length<=4096->TbR w' w'.heap.size A rs->Zw rs=Zz 1->Below w.heap.size w w'->ZbA 1 w (.returned (.tuple #[.agg #[.slice A rs.length c,.int .i64 1],.bool true])) w'):=QQ λA c rs w' D C y u hb=>⟨A,c,rs,rfl,D,C,y,u,hb⟩
 generalize ZbA 1 w=P at*;go_enter func149,ntmps149
 go_wp2_with (go_at_call 226;refine(Zlm _ (ZK hT _)).mono ?_;rintro e W ⟨A,c,rs,rfl,D,C,y,u,j⟩;have q:=QQ j;have V:=QQ y;have U:=QQ u;clear y u j;obtain⟨b0,I,_⟩:=bx q.out;have N:=b0 0;have d1:=I 0;have d2:=b0 1;have d3:=I 1;clear b0 I)
 obtain⟨L,J⟩:=ZhU (c:=c) (k:=1) V q.out;refine bodyPost_ret (v:=.tuple #[.agg #[.slice A rs.length c,.int .i64 1],.bool true]) (by simp[results,results149,go_sem,N,d2]) rfl ?_;exact O A c rs _ D C L U J
def SOf_2(w:World)(hT:Zo w):Calls prog 149 #[.int .i64 2] w (ZbA 2 w):=by
 have O:Hid (∀A c rs w',rs.length<=c->rs.length<=4096->TbR w' w'.heap.size A rs->Zw rs=Zz 2->Below w.heap.size w w'->ZbA 2 w (.returned (.tuple #[.agg #[.slice A rs.length c,.int .i64 2],.bool true])) w'):=QQ λA c rs w' D C y u hb=>⟨A,c,rs,rfl,D,C,y,u,hb⟩
 generalize ZbA 2 w=P at*;go_enter func149,ntmps149
 go_wp2_with (go_at_call 227;refine(ZrI _ (ZK hT _)).mono ?_;rintro e W ⟨A,c,rs,rfl,D,C,y,u,j⟩;have q:=QQ j;have V:=QQ y;have U:=QQ u;clear y u j;obtain⟨b0,I,_⟩:=bx q.out;have N:=b0 0;have d1:=I 0;have d2:=b0 1;have d3:=I 1;clear b0 I)
 obtain⟨L,J⟩:=ZhU (c:=c) (k:=2) V q.out;refine bodyPost_ret (v:=.tuple #[.agg #[.slice A rs.length c,.int .i64 2],.bool true]) (by simp[results,results149,go_sem,N,d2]) rfl ?_;exact O A c rs _ D C L U J
def SOf_3(w:World)(hT:Zo w):Calls prog 149 #[.int .i64 3] w (ZbA 3 w):=by
 have O:Hid (∀A c rs w',rs.length<=c->rs.length<=4096->TbR w' w'.heap.size A rs->Zw rs=Zz 3->Below w.heap.size w w'->ZbA 3 w (.returned (.tuple #[.agg #[.slice A rs.length c,.int .i64 3],.bool true])) w'):=QQ λA c rs w' D C y u hb=>⟨A,c,rs,rfl,D,C,y,u,hb⟩
 generalize ZbA 3 w=P at*;go_enter func149,ntmps149
 go_wp2_with (go_at_call 228;refine(ZrD _ (ZK hT _)).mono ?_;rintro e W ⟨A,c,rs,rfl,D,C,y,u,j⟩;have q:=QQ j;have V:=QQ y;have U:=QQ u;clear y u j;obtain⟨b0,I,_⟩:=bx q.out;have N:=b0 0;have d1:=I 0;have d2:=b0 1;have d3:=I 1;clear b0 I)
 obtain⟨L,J⟩:=ZhU (c:=c) (k:=3) V q.out;refine bodyPost_ret (v:=.tuple #[.agg #[.slice A rs.length c,.int .i64 3],.bool true]) (by simp[results,results149,go_sem,N,d2]) rfl ?_;exact O A c rs _ D C L U J
def SOf_0(w:World)(hT:Zo w):Calls prog 149 #[.int .i64 0] w (ZbA 0 w):=by
 have Y:Hid (∀A c rs w',rs.length<=c->rs.length<=4096->TbR w' w'.heap.size A rs->Zw rs=Zz 0->Below w.heap.size w w'->ZbA 0 w (.returned (.tuple #[.agg #[.slice A rs.length c,.int .i64 0],.bool true])) w'):=QQ λA c rs w' L J D C hb=>⟨A,c,rs,rfl,L,J,D,C,hb⟩
 generalize ZbA 0 w=P at*;have j:=λW h=>ZgW ZuJ (by decide) ZuI 265 W h;rw[show(latP.flatMap pV).toArray=#[.int .i64 0,.int .i32 0,.int .i64 256,.string ⟨#[]⟩] from rfl,show latP.length=1 from rfl] at j;unfold Zbb at j;have I:Hid (Below (w.alloc (.cells #[.slice none 0 0,.int .i64 0] 216)).heap.size (w.alloc (.cells #[.slice none 0 0,.int .i64 0] 216)) (w.alloc (.cells #[.slice none 0 0,.int .i64 0] 216))/\Zo (w.alloc (.cells #[.slice none 0 0,.int .i64 0] 216))):=QQ ⟨Below.refl _ _,ZK hT _⟩;go_enter func149,ntmps149
 go_wp2_with (first
  |(go_at_call 225;(with_reducible refine(Zc2 0 0 256 _).mono ?_);rintro e w1 ⟨rfl,u⟩;have O:=ZbY I u;clear u)
  |(go_at_call 224;refine(j _ O.2).mono ?_;rintro e w4 ⟨A,c,rs,rfl,L,J,D,C,q⟩;have y:=QQ (O.1.trans ((Ze q).mono O.1.size));have H3:=QQ D;have Z:=QQ C;clear D C q;obtain⟨b0,N,_⟩:=bx y.out;have X:=b0 0;have d1:=N 0;have d2:=b0 1;have d3:=N 1;clear b0 N))
 obtain⟨V,U⟩:=ZhU (c:=c) (k:=0) H3 y.out;refine bodyPost_ret (v:=.tuple #[.agg #[.slice A rs.length c,.int .i64 0],.bool true]) (by simp[results,results149,go_sem,X,d2]) rfl ?_;exact Y A c rs _ L J V Z U
def ZrG(c:Nat)(j:c<=3)(w:World)(hT:Zo w):Calls prog 149 #[.int .i64 c] w (ZbA c w):=by
 obtain rfl|rfl|rfl|rfl:c=0\/c=1\/c=2\/c=3:=by omega
 ·exact SOf_0 w hT
 ·exact SOf_1 w hT
 ·exact SOf_2 w hT
 ·exact SOf_3 w hT
structure Two (K:Nat)(w w':World):Prop where
 os:w'.os=w.os
 tape:w'.tape=w.tape
 output:w'.output=w.output
 size:w.heap.size<=w'.heap.size
 block:∀k,k<w.heap.size->k≠K->k≠K+1->w'.heap[k]? =w.heap[k]?
def Two.of{K:Nat}{w w':World}(h:Below w.heap.size w w'):Two K w w':=⟨h.os,h.tape,h.output,h.size,λk j _ _=>h.block k j⟩
def Two.trans{K:Nat}{a b c:World}(h:Two K a b)(g:Two K b c):Two K a c:=
 ⟨g.os.trans h.os,g.tape.trans h.tape,g.output.trans h.output,Nat.le_trans h.size g.size,λk j u q=>(g.block k (Nat.lt_of_lt_of_le j h.size) u q).trans (h.block k j u q)⟩
def Two.set{K j:Nat}{w:World}{p:Nat}(q:p=K\/p=K+1)(v:Value):Two K w (w.setCell ⟨p,j,none⟩ v):=
 have h:=(Below.refl p w).setCell (p:=⟨p,j,none⟩) (Nat.le_refl p) v
 ⟨h.os,h.tape,h.output,h.size,λk _ y u=>heap_set (by rcases q with rfl|rfl<;>assumption) v⟩
def Two.below{K B:Nat}{w w':World}(h:Two K w w')(hB:B<=K)(hs:B<=w.heap.size):Below B w w':=⟨h.os,h.tape,h.output,h.size,λk j=>h.block k (by omega) (by omega) (by omega)⟩
def Two.cell{K:Nat}{w w':World}(h:Two K w w'){p:Addr}(j:p.block<w.heap.size)(u:p.block≠K)(q:p.block≠K+1):w'.cell? p=w.cell? p:=World.cell?_of_block (w:=w) (h.block p.block j u q)
def Zaj(K:Nat)(M:Nat->Option Int)(w:World):Prop:=∃q j:Array Value,w.heap[K]?=some (.cells q 246 (0,0))/\w.heap[K+1]?=some (.cells j 268 (0,0))/\q.size=256/\j.size=256/\
 (∀n,n<256->q[n]?=some (.bool (M n).isSome))/\(∀n,n<256->∃v:Int,j[n]?=some (.int .i32 v)/\∀p,M n=some p->v=p)
def Zaj.heap{K:Nat}{M:Nat->Option Int}{w w':World}(h:Zaj K M w)(y:w'.heap[K]?=w.heap[K]?)(u:w'.heap[K+1]?=w.heap[K+1]?):Zaj K M w':=by
 obtain⟨q,j,a,b,r⟩:=h;exact⟨q,j,y.trans a,u.trans b,r⟩
def Zaj.lt{K:Nat}{M:Nat->Option Int}{w:World}(h:Zaj K M w):K+1<w.heap.size:=by
 obtain⟨_,_,_,b,_⟩:=h;exact(Array.getElem?_eq_some_iff.1 b).1
def Zaj.below{K:Nat}{M:Nat->Option Int}{w w':World}(h:Zaj K M w)(hb:Below w.heap.size w w'):Zaj K M w':=by
 have:=h.lt;exact h.heap (hb.block _ (by omega)) (hb.block _ (by omega))
def Zaj.get{K:Nat}{M:Nat->Option Int}{w:World}(h:Zaj K M w){n:Nat}(hn:n<256):
 w.cell? ⟨K,n,none⟩=some (.bool (M n).isSome)/\w.frozen? ⟨K,n,none⟩=false/\w.frozen? ⟨K+1,n,none⟩=false/\∃v:Int,w.cell? ⟨K+1,n,none⟩=some (.int .i32 v)/\∀p,M n=some p->v=p:=by
 obtain⟨y,u,a,b,_,_,c,d⟩:=h;obtain⟨v,q,j⟩:=d n hn;exact⟨by rw[cell_of_row _ K n _ _ _ a];exact c n hn,frozen_of_row _ K n _ _ a,frozen_of_row _ (K+1) n _ _ b,v,by rw[cell_of_row _ (K+1) n _ _ _ b];exact q,j⟩
def Zaj.set{K:Nat}{M:Nat->Option Int}{w:World}(h:Zaj K M w){n:Nat}(_:n<256)(p:Int):
 Zaj K (λm=>if n=m then some p else M m) ((w.setCell ⟨K,n,none⟩ (.bool true)).setCell ⟨K+1,n,none⟩ (.int .i32 p)):=by
 obtain⟨y,u,a,b,I,D,c,d⟩:=h;have N:=heap_setCell_same w K n y _ (.bool true) a;have b1:(w.setCell ⟨K,n,none⟩ (.bool true)).heap[K+1]?=some (.cells u 268 (0,0)):=(heap_set (by omega) _).trans b;refine⟨y.setIfInBounds n (.bool true),u.setIfInBounds n (.int .i32 p),(heap_set (by omega) _).trans N,heap_setCell_same _ (K+1) n u _ _ b1,by simpa using I,by simpa using D,λm j=>?_,λm j=>?_⟩
 ·show(y.setIfInBounds n (.bool true))[m]?=some (.bool (if n=m then some p else M m).isSome)
  rw[Array.getElem?_setIfInBounds];by_cases e:n=m
  ·subst e;simp[I,j]
  ·rw[if_neg e,if_neg e];exact c m j
 ·rw[Array.getElem?_setIfInBounds];by_cases e:n=m
  ·subst e;exact⟨p,by simp[D,j],λq C=>by simpa using C⟩
  ·obtain⟨v,L,J⟩:=d m j;exact⟨v,by rw[if_neg e];exact L,λq C=>J q (by simpa[e] using C)⟩
def Zaj.congr{K:Nat}{M j:Nat->Option Int}{w:World}(h:Zaj K M w)(e:∀n,n<256->M n=j n):Zaj K j w:=by
 obtain⟨u,q,a,b,C,y,c,d⟩:=h;exact⟨u,q,a,b,C,y,λn hn=>by rw[<-e n hn];exact c n hn,λn hn=>by rw[<-e n hn];exact d n hn⟩
def Zaj.mk0(w:World):Zaj w.heap.size (λ_=>none) ((w.alloc (.cells zeroCells246 246)).alloc (.cells zeroCells268 268)):=by
 have C:=heap_alloc_new w (.cells zeroCells246 246);have j:=heap_alloc_new (w.alloc (.cells zeroCells246 246)) (.cells zeroCells268 268);rw[World.size_alloc] at j;have u:zeroCells246=Array.replicate 256 (.bool false):=by kernel_rfl
 have q:zeroCells268=Array.replicate 256 (.int .i32 0):=by kernel_rfl
 refine⟨_,_,(Below.heap_alloc _ _ _ (by simp)).trans C,j,by rw[u];simp,by rw[q];simp,λn hn=>?_,λn hn=>⟨0,?_,λp y=>by cases y⟩⟩
 ·rw[u,Array.getElem?_replicate,if_pos hn];rfl
 ·rw[q,Array.getElem?_replicate,if_pos hn]
def Zaj.apart{K:Nat}{M:Nat->Option Int}{w:World}(h:Zaj K M w){a:Addr}{z:Int}(j:w.cell? a=some (.int .i64 z)):a.block≠K/\a.block≠K+1:=by
 obtain⟨L,J,y,D,N,k2,c,d⟩:=h;have q:a.spot=none:=World.cell?_spot j;obtain⟨b,o,I⟩:=a;simp only at q;subst q;constructor
 ·rintro rfl;simp only at y;rw[cell_of_row _ _ o _ _ _ y] at j;by_cases u:o<256
  ·rw[c o u] at j;cases j
  ·rw[Array.getElem?_eq_none (by omega)] at j;cases j
 ·intro e;simp only at e;subst e;rw[cell_of_row _ _ o _ _ _ D] at j;by_cases u:o<256
  ·obtain⟨v,C,_⟩:=d o u;rw[C] at j;cases j
  ·rw[Array.getElem?_eq_none (by omega)] at j;cases j
def SdRel(L:List Pr)(K:Nat)(j:World)(i:Value)(wr:World):Prop:=∃k:Nat,k<=L.length/\i=.int .i64 k/\Zaj K (ZbH (L.take k)) wr/\Two K j wr
def StRel(L:List Pr)(b:ByteArray)(base:Nat)(j:World)(v i:Value)(wr:World):Prop:=∃(k:Nat) (ps:List Int),k<=b.size/\i=.int .i64 k/\(b.data.toList.take k).map (λx=>ZbH L x.toNat)=ps.map some/\wr.ownsRow base 5 1 v (ZE ps).length ((ZE ps).map (Value.int .u8))/\Below j.heap.size j wr
def DdRes(r:List Int⊕Nat):Value:=match r with
 | .inl ps=>.tuple #[.string (tB ps),.agg #[.int .i64 0,.int .i64 0]]
 | .inr j=>.tuple #[.string ⟨#[]⟩,.agg #[.int .i64 2,.int .i64 (j:Int)]]
def ZgJ(r:List Int⊕Nat)(w0:World)(e:Ending)(w':World):Prop:=e=.returned (DdRes r)/\Below w0.heap.size w0 w'
def Zny:∀(L:List Pr) (o:Option Int) (n:Nat) (p:Int),L.foldl (λo x=>if x.1=n then some x.2 else o) o=some p->o=some p\/∃x∈L,x.2=p
 |[],o,n,p,h=>.inl h
 |x::L,o,n,p,h=>by
  rcases Zny L _ n p h with j|⟨y,j,q⟩
  ·have j:(if x.1=n then some x.2 else o)=some p:=j;by_cases e:x.1=n
   ·rw[if_pos e] at j;injection j with j;exact .inr ⟨x,List.mem_cons_self ..,j⟩
   ·rw[if_neg e] at j;exact .inl j
  ·exact .inr ⟨y,List.mem_cons_of_mem _ j,q⟩
def ls_rng{L:List Pr}(h:∀x∈L, -2147483648<=x.2/\x.2<2147483648){n:Nat}{p:Int}(q:ZbH L n=some p): -2147483648<=p/\p<2147483648:=by
 rcases Zny L none n p q with j|⟨x,j,u⟩
 ·cases j
 ·subst u;exact h x j
def ZrE(A:Option Addr)(c:Nat)(q:Int)(rs:List (Rw×Sl))(b:ByteArray)(L:List Pr)(hL:Zw rs=L)(aL:∀x∈L, -2147483648<=x.2/\x.2<2147483648)(hb:b.size<=100000)(hn:rs.length<=35184372089000)(w:World)(h:TbR w w.heap.size A rs)(hT:Zo w):
 Calls prog 150 #[.agg #[.slice A rs.length c,.int .i64 q],.string b] w (ZgJ (dcF L b.data.toList 0) w):=by
 have HP:Hid (∀r w',dcF L b.data.toList 0=r->Below w.heap.size w w'->ZgJ (dcF L b.data.toList 0) w (.returned (DdRes r)) w'):=QQ λr w' h1 h2=>by rw[h1];exact⟨rfl,h2⟩
 generalize ZgJ (dcF L b.data.toList 0) w=P at*;have ab:=λU (hb:Below w.heap.size w U)=>Zlb A c rs hn U ((h.below hb).more hb.size);rw[show(rs.map (·.1)).flatMap prs=L from hL] at ab;unfold Zin at ab;have a1:=h.total;rw[<-ZhS,show(rs.map (·.1)).flatMap prs=L from hL] at a1;have bH:b.data.toList.length=b.size:=by simp
 obtain⟨W2,Y⟩:∃W2,W2=(w.alloc (.cells #[.slice A rs.length c,.int .i64 q] 216)).alloc (.cells #[.int .i64 0,.int .i64 0] 34):=⟨_,rfl⟩
 have ai:W2.heap.size=w.heap.size+2:=by rw[Y];simp
 have aN:Below w.heap.size w W2:=by rw[Y];exact((Below.refl _ _).alloc NL _).alloc (by simp) _
 have aq:=Zaj.mk0 W2;rw[ai] at aq;have aM:Below W2.heap.size W2 ((W2.alloc (.cells zeroCells246 246)).alloc (.cells zeroCells268 268)):=((Below.refl _ _).alloc NL _).alloc (by simp) _;have aI:W2.heap[w.heap.size+1]?=some (.cells #[.int .i64 0,.int .i64 0] 34 (0,0)):=by
  rw[Y];have:=heap_alloc_new (w.alloc (.cells #[.slice A rs.length c,.int .i64 q] 216)) (.cells #[.int .i64 0,.int .i64 0] 34);simpa using this
 have ay:=QQ aM;have Z:=QQ aN;have bb:=QQ Y;have bh:=QQ aq;have bf:=QQ aI;have aO:=QQ ai;have be:Hid (∀U,Below w.heap.size w U->Calls prog 229 #[.agg #[.slice A rs.length c]] U λe w'=>∃A c,e=.returned (.slice A L.length c)/\L.length<=c/\Reads w' w'.heap.size 2 A L.length (L.flatMap prV)/\Below U.heap.size U w'):=QQ ab;clear aM aN Y aq aI ai ab h hL;go_enter func150,ntmps150
 go_wp2_with fail
 rw[<-bb.out];refine(be _ (Z.trans (ay.mono Z.size))).mono ?_;rintro e U ⟨A3,c3,rfl,bG,aF,ao⟩;have bd:Hid (PrsL U U.heap.size A3 L):=QQ aF;have aa:=QQ (ay.trans (ao.mono ay.size));have aS:=QQ (bh.below ao);have aY:=aa.size;rw[aO.out] at aY;clear aF ao;go_wp2_with fail
 go_loopw [16] (λi wr=>SdRel L (w.heap.size+1+1) U i wr) (λi _=>L.length - (intOf i).toNat)
 case atStart=>exact⟨0,by omega,rfl,aS,Two.of (Below.refl _ _)⟩
 case round=>
  obtain⟨k,hk,rfl,C,D⟩:=hrel;have bJ:=C.lt;have bz:=D.size;by_cases am:k<L.length
  ·obtain⟨x,hx⟩:∃x,L[k]?=some x:=⟨_,List.getElem?_eq_getElem am⟩
   obtain⟨ad,rfl,ah,y0,y1,_⟩:=bd.pair hx;obtain⟨n1,n2⟩:=aS.apart y0;rw[Zbm] at n1 n2;have z0:=(D.cell (p:=ad.add (k*2)) (by rw[Zbm];exact ah) (by rw[Zbm];exact n1) (by rw[Zbm];exact n2)).trans y0;have z1:=(D.cell (p:=⟨(ad.add (k*2)).block,(ad.add (k*2)).off+1,none⟩) (by show(ad.add (k*2)).block<_;rw[Zbm];exact ah) (by show(ad.add (k*2)).block≠_;rw[Zbm];exact n1) (by show(ad.add (k*2)).block≠_;rw[Zbm];exact n2)).trans y1;have aE:L.take (k+1)=L.take k++[x]:=by rw[List.take_add_one,hx];rfl
   have aP:=QQ aE;have bA:=aL x (List.mem_of_getElem? hx);have hl:k<L.length:=am;have ae:Below wr.heap.size wr (wr.alloc (.cells #[.int .i64 (x.1:Int),.int .i32 x.2] 272)):=(Below.refl _ _).alloc NL _;clear aE n1 n2 y0 y1;by_cases hc:x.1<256
   ·have a3:(x.1:Int)<256:=by omega
    go_wp2_with fail
    have q0:(wr.alloc (.cells #[.int .i64 (x.1:Int),.int .i32 x.2] 272)).drew.cell? ⟨wr.heap.size,0,none⟩=some (.int .i64 (x.1:Int)):=by rw[World.cell?_drew,cell_of_row _ wr.heap.size 0 _ _ _ (heap_alloc_new wr _)];rfl
    have q1:(wr.alloc (.cells #[.int .i64 (x.1:Int),.int .i32 x.2] 272)).drew.cell? ⟨wr.heap.size,1,none⟩=some (.int .i32 x.2):=by rw[World.cell?_drew,cell_of_row _ wr.heap.size 1 _ _ _ (heap_alloc_new wr _)];rfl
    have ap:Zaj (w.heap.size+1+1) (ZbH (L.take k)) (wr.alloc (.cells #[.int .i64 (x.1:Int),.int .i32 x.2] 272)).drew:=C.below ae.drew;have a9:=QQ (D.trans (Two.of ae.drew));refine ZpE (λW=>W.cell? ⟨wr.heap.size,0,none⟩=some (.int .i64 (x.1:Int))/\W.cell? ⟨wr.heap.size,1,none⟩=some (.int .i32 x.2)) [(0,true),(1,true),(2,true),(3,true),(4,true),(5,true),(6,true),(7,false),(8,true),(9,false)] (by kernel_rfl) (by kernel_rfl) (by kernel_rfl) (Nat.le_of_ble_eq_true rfl) (λ_ _ d _ _ h=>by cases d<;>exact h) ⟨q0,q1⟩ ?_;generalize (wr.alloc (.cells #[.int .i64 (x.1:Int),.int .i32 x.2] 272)).drew=W0 at*;obtain⟨e1,e2,e3,v,e4,_⟩:=ap.get hc;have bg:=QQ (ap.set hc x.2);clear ap;have m1:(W0.setCell ⟨w.heap.size+1+1,x.1,none⟩ (.bool true)).cell? ⟨wr.heap.size,0,none⟩=some (.int .i64 (x.1:Int)):=(Zcv (by show wr.heap.size≠_;omega) _).trans q0;have m2:(W0.setCell ⟨w.heap.size+1+1,x.1,none⟩ (.bool true)).cell? ⟨wr.heap.size,1,none⟩=some (.int .i32 x.2):=(Zcv (by show wr.heap.size≠_;omega) _).trans q1;refine' Zdw rfl (by rfl) _ (λW u=>_) _
    rotate_left
    ·obtain⟨s1,s2⟩:=u
     go_simp
     try with_reducible rfl
    try simp only[Act.put,List.setIfInBounds_toArray,List.set_cons_zero,List.set_cons_succ]
    refine' Zdw rfl (by rfl) _ (λW u=>_) _
    rotate_left
    ·obtain⟨s1,s2⟩:=u
     go_simp
     try with_reducible rfl
    try simp only[Act.put,List.setIfInBounds_toArray,List.set_cons_zero,List.set_cons_succ]
    refine' Zdw rfl (by rfl) _ (λW u=>_) _
    rotate_left
    ·obtain⟨s1,s2⟩:=u
     go_simp
     try with_reducible rfl
    try simp only[Act.put,List.setIfInBounds_toArray,List.set_cons_zero,List.set_cons_succ]
    refine' Zdw rfl (by rfl) _ (λW u=>_) _
    rotate_left
    ·obtain⟨s1,s2⟩:=u
     go_simp
     try with_reducible rfl
    try simp only[Act.put,List.setIfInBounds_toArray,List.set_cons_zero,List.set_cons_succ]
    refine' Zdw rfl (by rfl) _ (λW u=>_) _
    rotate_left
    ·obtain⟨s1,s2⟩:=u
     go_simp
     try with_reducible rfl
    try simp only[Act.put,List.setIfInBounds_toArray,List.set_cons_zero,List.set_cons_succ]
    refine' Zdw rfl (by rfl) _ (λW u=>_) _
    rotate_left
    ·obtain⟨s1,s2⟩:=u
     go_simp
     try with_reducible rfl
    try simp only[Act.put,List.setIfInBounds_toArray,List.set_cons_zero,List.set_cons_succ]
    refine Zdw rfl (by rfl) (.pointer (some ⟨w.heap.size+1+1,x.1,none⟩)) (λW u=>by go_simp) ?_
    try simp only[Act.put,List.setIfInBounds_toArray,List.set_cons_zero,List.set_cons_succ]
    refine Zga rfl (by rfl) (λK hK=>?_)
    go_simp
    go_wp2_with fail
    have e5:(W0.setCell ⟨w.heap.size+1+1,x.1,none⟩ (.bool true)).cell? ⟨w.heap.size+1+1+1,x.1,none⟩=some (.int .i32 v):=(Zcv (by show w.heap.size+1+1+1≠_;omega) _).trans e4;have e6:(W0.setCell ⟨w.heap.size+1+1,x.1,none⟩ (.bool true)).frozen? ⟨w.heap.size+1+1+1,x.1,none⟩=false:=by rw[World.frozen?_of_block (w:=W0) (heap_set (by show w.heap.size+1+1+1≠_;omega) _)];exact e3
    have aK:=Two.set (K:=w.heap.size+1+1) (j:=x.1) (w:=W0) (p:=w.heap.size+1+1) (.inl rfl) (.bool true);have bc:=QQ (a9.trans (aK.trans (Two.set (K:=w.heap.size+1+1) (j:=x.1) (p:=w.heap.size+1+1+1) (.inr rfl) (.int .i32 x.2))));refine hK _ _ ⟨m1,m2⟩ ?_;clear hK K aK;generalize (W0.setCell ⟨w.heap.size+1+1,x.1,none⟩ (.bool true))=Wm at*
    try simp only[Act.put,List.setIfInBounds_toArray,List.set_cons_zero,List.set_cons_succ]
    refine Zdw rfl (by rfl) (.pointer (some ⟨w.heap.size+1+1+1,x.1,none⟩)) (λW u=>by go_simp) ?_
    try simp only[Act.put,List.setIfInBounds_toArray,List.set_cons_zero,List.set_cons_succ]
    refine Zga rfl (by rfl) (λK hK=>?_)
    go_simp
    go_wp2_with fail
    have m3:(Wm.setCell ⟨w.heap.size+1+1+1,x.1,none⟩ (.int .i32 x.2)).cell? ⟨wr.heap.size,0,none⟩=some (.int .i64 (x.1:Int)):=(Zcv (by show wr.heap.size≠_;omega) _).trans m1;have m4:(Wm.setCell ⟨w.heap.size+1+1+1,x.1,none⟩ (.int .i32 x.2)).cell? ⟨wr.heap.size,1,none⟩=some (.int .i32 x.2):=(Zcv (by show wr.heap.size≠_;omega) _).trans m2;refine hK _ _ ⟨m3,m4⟩ ?_;clear hK K
    try simp only[Act.put,List.setIfInBounds_toArray,List.set_cons_zero,List.set_cons_succ]
    refine Znu ?_;go_wp2_with fail
    go_roundw
    case rel=>exact⟨k+1,by omega,by simp,bg.congr (λn _=>by rw[aP.out,Zjp]),bc⟩
    case measure=>simp[intOf];omega
   ·have a3:¬((x.1:Int)<256):=by omega
    go_wp2_with fail
    go_roundw
    case rel=>exact⟨k+1,by omega,by simp,(C.below ae).congr (λn hn=>by rw[aP.out,Zjp,if_neg (by omega)]),D.trans (Two.of ae)⟩
    case measure=>simp[intOf];omega
  ·obtain rfl:k=L.length:=by omega
   rw[List.take_length] at C;have bE:¬((L.length:Int)<L.length):=by omega
   have ax:Hid (Below w.heap.size w wr):=QQ ((Z.trans (aa.mono Z.size)).trans (D.below (by omega) (by have:=aa.size;have:=Z.size;omega)));have aH:wr.heap[w.heap.size+1]?=some (.cells #[.int .i64 0,.int .i64 0] 34 (0,0)):=by
    rw[D.block _ (by have:=aa.size;omega) (by omega) (by omega),aa.block _ (by rw[aO.out];omega)];exact bf.out
   have bI:Zo wr:=ZaQ hT ax NL;have aQ:=QQ aH;have aR:=QQ C;have bC:w.heap.size+3<wr.heap.size:=by have:=C.lt;omega
   obtain⟨wo,rfl⟩:∃wo:World,wo=wr:=⟨_,rfl⟩
   clear D aH C;go_wp2_with fail
   go_loopw [10,11] (λv i wr=>StRel L b wo.heap.size wo v i wr) (λ_ i _=>b.size - (intOf i).toNat)
   case atStart=>exact⟨0,[],by omega,rfl,rfl,⟨rfl,.inl ⟨rfl,rfl⟩⟩,Below.refl _ _⟩
   case round=>
    obtain⟨k,ps,hk,rfl,I,O,N⟩:=hrel;have aD:=N.size;by_cases am:k<b.size
    ·have hx:b.data.toList[k]?=some b[k]:=by rw[List.getElem?_eq_getElem (by omega)];rfl
     have ak:b.data.toList.take (k+1)=b.data.toList.take k++[b[k]]:=by rw[List.take_add_one,hx];rfl
     have aj:b[k].toNat<256:=b[k].toNat_lt;have aV:(b[k].toNat:Int)<256:=by omega
     obtain⟨e1,_,_,v,e4,e5⟩:=(aR.below N).get aj;cases J:ZbH L b[k].toNat with
     |none=>
      rw[J] at e1;have a8:wr.cell? ⟨w.heap.size+1+1,b[k].toNat,none⟩=some (.bool false):=e1;have Hr:=QQ (Zmn L k b.data.toList ps 0 b[k] I hx J);have y:=Zy aQ N;have g0:wr.cell? ⟨w.heap.size+1,0,none⟩=some (.int .i64 0):=by rw[cell_of_row _ _ 0 _ _ _ y];rfl
      have g1:wr.cell? ⟨w.heap.size+1,1,none⟩=some (.int .i64 0):=by rw[cell_of_row _ _ 1 _ _ _ y];rfl
      have g2:wr.frozen? ⟨w.heap.size+1,0,none⟩=false:=frozen_of_row _ _ 0 _ _ y;have g3:wr.frozen? ⟨w.heap.size+1,1,none⟩=false:=frozen_of_row _ _ 1 _ _ y;clear e1 e4 e5 J I hx ak y O;go_wp2_with fail
      refine bodyPost_ret (v:=.tuple #[.string ⟨#[]⟩,.agg #[.int .i64 2,.int .i64 k]]) (by simp[results,results150,go_sem,g0,g1]) rfl ?_;exact HP (.inr k) _ (Hr.trans (by rw[Nat.zero_add])) (((ax.trans (N.mono (by omega))).setCell (Nat.le_succ _) _).setCell (Nat.le_succ _) _)
     |some p=>
      rw[J] at e1;have a8:wr.cell? ⟨w.heap.size+1+1,b[k].toNat,none⟩=some (.bool true):=e1;have hv:=e5 p J;subst hv;have bD:=ls_rng aL J;have aG:=QQ (show(b.data.toList.take (k+1)).map (λx=>ZbH L x.toNat)=(ps++[v]).map some by rw[ak,List.map_append,I,List.map_append,List.map_cons,List.map_nil,J];rfl);have aZ:ps.length=k:=by have:=congrArg List.length I;simp at this;omega
      have aJ:(ZE ps).length+4<=140737488355328:=by
       have h1:=ZhV ps;have h2:=(Zbp ps).2;omega
      have X:Hid ((ZE (ps++[v])).map (Value.int .u8)=(ZE ps).map (Value.int .u8)++Lib.runeCells v):=by
       rw[ZhW,List.map_append];rfl
      have ac:Hid ((ZE (ps++[v])).length=(ZE ps).length+(Lib.runeCells v).length):=by
       have:=congrArg List.length X.out;simp only[List.length_map,List.length_append] at this;exact this
      clear e1 e5 J I hx ak aZ;go_wp2_with (go_at_call 190;refine(utf8_AppendRune_plain _ _ _ _ v (by omega) (by omega) _ O aJ aD).mono ?_;rintro e w2 ⟨v',rfl,V,o,a2⟩)
      have a4:Below wo.heap.size wo w2:=Zad (N.alloc aD o) (O.alloc o) a2 (by simp;omega) NL;rw[<-X.out,<-ac.out] at V;go_roundw
      case rel=>exact⟨k+1,ps++[v],by omega,by simp,aG,V,a4⟩
      case measure=>simp[intOf];omega
    ·obtain rfl:k=b.size:=by omega
     have bo:¬((b.size:Int)<b.size):=by omega
     rw[List.take_of_length_le (by omega)] at I;have Hr:=QQ (ZiN L b.data.toList ps 0 I);have y:=Zy aQ N;have g0:wr.cell? ⟨w.heap.size+1,0,none⟩=some (.int .i64 0):=by rw[cell_of_row _ _ 0 _ _ _ y];rfl
     have g1:wr.cell? ⟨w.heap.size+1,1,none⟩=some (.int .i64 0):=by rw[cell_of_row _ _ 1 _ _ _ y];rfl
     have g2:wr.frozen? ⟨w.heap.size+1,0,none⟩=false:=frozen_of_row _ _ 0 _ _ y;have g3:wr.frozen? ⟨w.heap.size+1,1,none⟩=false:=frozen_of_row _ _ 1 _ _ y;have an:=Zep (P:=prog) 110 9 5 underlying110 underlying5 underlying9 wr O;rw[ZhR] at an;clear I y;go_wp2_with fail
     refine bodyPost_ret (v:=.tuple #[.string ⟨(Zd ps).toArray⟩,.agg #[.int .i64 0,.int .i64 0]]) (by simp[results,results150,go_sem,g0,g1]) rfl ?_;exact HP (.inl ps) _ Hr (((ax.trans (N.mono (by omega))).setCell (Nat.le_succ _) _).setCell (Nat.le_succ _) _)
