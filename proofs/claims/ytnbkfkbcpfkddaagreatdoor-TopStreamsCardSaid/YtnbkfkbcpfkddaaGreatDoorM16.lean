/- Lemmas for a statement on the tops; conditions: as each says. -/
import Derived.Laws.Tables
import Derived.Laws.Rows
import Derived.Deep.WholeRow
import Derived.Test.YtnbkfkbcpfkddaaGreatDoorM15
set_option linter.unusedVariables false
set_option linter.unusedSimpArgs false
set_option maxRecDepth 100000
set_option maxHeartbeats 4000000
namespace Go.Proofs.YtnbkfkbcpfkddaaGreatDoor
open Go Go.RowKit
def Zdv (w:World)(r:Nat×Nat)(e:Ending)(w':World):Prop:=e= .returned (.agg #[.int .i64 r.1,.int .i64 r.2])∧Below w.heap.size w w'
section
variable {w0 w w':World} {v:Int} {rev fl:UInt8} {sl:Value}
end
theorem ZmQ (a:Option Addr)(n c:Nat)(hn:n=0)(w:World):
 Calls Tryz.prog 19 #[.slice a n c] w fun e w'=>e= .returned (.string ⟨#[]⟩)∧w=w':=by
 subst hn;have hj:=Tryz.strings_Join_none a c ⟨#[]⟩;go_enter Tryz.func19,Tryz.ntmps19
 go_wp2_with (go_at_call 37;refine(hj _).mono ?_;rintro e w1 ⟨rfl,rfl⟩)
 go_ret
 exact⟨rfl,rfl⟩
theorem Zel {base:Nat} {v:Value} {l:List (List UInt8)} {w:World} (h:w.ownsRow base 9 1 v l.length (l.map sV))(hf:l.flatten.length≤35184372089000)(hn:l.length≤35184372089000):
 Calls Tryz.prog 19 #[v] w fun e w'=>e= .returned (.string (B l.flatten))∧Below w.heap.size w w':=by
 by_cases hl:l=[]
 · subst hl;obtain⟨_,A,c,rfl,_⟩:=ZbF h;refine(ZmQ A _ c rfl w).mono ?_;rintro e w' ⟨rfl,rfl⟩;exact⟨rfl,Below.refl _ _⟩
 · exact SJoin h hl hf hn
def Zfu (w:World)(s:List UInt8)(e:Ending)(w':World):Prop:=e= .returned (.tuple #[.string (B s),.agg #[.int .i64 0,.int .i64 0]])∧Below w.heap.size w w'
theorem setRow_other (w:World)(g k:Nat)(cs:Array Value)(h:k≠g):(w.setRow g cs).heap[k]? =w.heap[k]?:=by
 unfold World.setRow;rw [Array.getElem?_modify,if_neg (fun e=>h e.symm)]
theorem size_setRow (w:World)(g:Nat)(cs:Array Value):(w.setRow g cs).heap.size=w.heap.size:=by
 unfold World.setRow;simp
theorem Bx.row {w:World} {g:Nat} {old:Array Value} {T:TypeId} (h:Bx w g old T)(cs:Array Value):Bx (w.setRow g cs) g cs T:=setRow_heap w g old cs T (0,0) h
theorem Bx.rowO {w:World} {g k:Nat} {old:Array Value} {T:TypeId} (h:Bx w g old T)(hk:g≠k)(cs:Array Value):Bx (w.setRow k cs) g old T:=(setRow_other w k g cs hk).trans h
theorem Za8 {B g:Nat} {a w:World} (h:Below B a w)(hg:B≤g)(cs:Array Value):Below B a (w.setRow g cs):=
 ⟨h.os,h.tape,h.output,by rw [size_setRow];exact h.size,fun k hk=>(setRow_other w g k cs (by omega)).trans (h.block k hk)⟩
theorem ZcX {C:Nat} {w:World} (cs:Array Value):But C w.heap.size w (w.setRow C cs):=
 ⟨rfl,rfl,rfl,by rw [size_setRow];exact Nat.le_refl _,fun k _ hc=>setRow_other w C k cs hc⟩
end Go.Proofs.YtnbkfkbcpfkddaaGreatDoor
namespace Go.Proofs.YtnbkfkbcpfkddaaGreatDoor
open Go
def Zu (n:Nat):List UInt8:=List.replicate (n / 255) 255++[UInt8.ofNat (n % 255)]
def ZE:List UInt8→List UInt8→List UInt8→List (List UInt8)×List UInt8
 |acc,[],_=>([],acc)
 |acc,x::r,b=>
  if x=255 then ZE (acc++b.take x.toNat) r (b.drop x.toNat)
  else let q:=ZE [] r (b.drop x.toNat);((acc++b.take x.toNat)::q.1,q.2)
theorem ZeB:∀(l1 l2 acc b:List UInt8),ZE acc (l1++l2) b=
 ((ZE acc l1 (b.take (Zc l1))).1++(ZE (ZE acc l1 (b.take (Zc l1))).2 l2 (b.drop (Zc l1))).1,
   (ZE (ZE acc l1 (b.take (Zc l1))).2 l2 (b.drop (Zc l1))).2)
 |[],l2,acc,b=>by simp [ZE,Zc]
 |x::r,l2,acc,b=>by
  have h1:(b.take (x.toNat+Zc r)).take x.toNat=b.take x.toNat:=by
   rw [List.take_take,Nat.min_eq_left (by omega)]
  have h2:(b.take (x.toNat+Zc r)).drop x.toNat=(b.drop x.toNat).take (Zc r):=by
   rw [List.drop_take];congr 1;omega
  have h3:b.drop (x.toNat+Zc r)=(b.drop x.toNat).drop (Zc r):=by rw [List.drop_drop]
  simp only [List.cons_append,ZE,Zc,h1,h2,h3];split
  · exact ZeB r l2 _ _
  · rw [ZeB r l2 [] (b.drop x.toNat)];rfl
theorem ZjD (n:Nat):Zu (n+255)=255::Zu n:=by
 rw [Zu,Zu,show(n+255) / 255=n / 255+1 by omega,show(n+255) % 255=n % 255 by omega,List.replicate_succ];rfl
theorem ZjC (n:Nat)(h:n<255):Zu n=[UInt8.ofNat n]:=by
 rw [Zu,Nat.div_eq_of_lt h,Nat.mod_eq_of_lt h];rfl
theorem Znz:∀(n:Nat) (acc b rest r:List UInt8),b.length=n→
 ZE acc (Zu n++r) (b++rest)=((acc++b)::(ZE [] r rest).1,(ZE [] r rest).2):=by
 intro n;induction n using Nat.strongRecOn with
 |_ n ih=>
  intro acc b rest r hb;by_cases h:n<255
  · rw [ZjC n h];have hn:(UInt8.ofNat n).toNat=n:=by rw [UInt8.toNat_ofNat'];omega
    have hx:UInt8.ofNat n≠255:=by
     intro e;have:=congrArg UInt8.toNat e;rw [hn] at this;simp at this;omega
    simp only [List.cons_append,List.nil_append,ZE,if_neg hx,hn];rw [←hb];simp
  · obtain⟨m,rfl⟩:∃m,n=m+255:=⟨n - 255,by omega⟩
    rw [ZjD];have e1:(b++rest).take 255=b.take 255:=by rw [List.take_append_of_le_length (by omega)]
    have e2:(b++rest).drop 255=b.drop 255++rest:=by rw [List.drop_append_of_le_length (by omega)]
    have e3:(255:UInt8).toNat=255:=rfl;simp only [List.cons_append,ZE,if_true,e3,e1,e2];rw [ih m (by omega) (acc++b.take 255) (b.drop 255) rest r (by rw [List.length_drop];omega),List.append_assoc,List.take_append_drop]
theorem ZiH:∀ps:List (List UInt8),ZE [] (ps.map fun p=>Zu p.length).flatten ps.flatten=(ps,[])
 |[]=>rfl
 |p::ps=>by
  simp only [List.map_cons,List.flatten_cons];rw [Znz p.length [] p ps.flatten _ rfl,ZiH ps];rfl
theorem ZcT:∀a b,Zc (a++b)=Zc a+Zc b
 |[],b=>by simp [Zc]
 |x::r,b=>by simp [Zc,ZcT r b,Nat.add_assoc]
theorem ZqV:∀n,Zc (Zu n)=n:=by
 intro n;induction n using Nat.strongRecOn with
 |_ n ih=>
  by_cases h:n<255
  · rw [ZjC n h];simp only [Zc,UInt8.toNat_ofNat'];omega
  · obtain⟨m,rfl⟩:∃m,n=m+255:=⟨n - 255,by omega⟩
    rw [ZjD];simp only [Zc,ih m (by omega)];show 255+m=m+255;omega
theorem Zfp:∀ps:List (List UInt8),Zc (ps.map fun p=>Zu p.length).flatten=ps.flatten.length
 |[]=>rfl
 |p::ps=>by simp [ZcT,ZqV,Zfp ps]
theorem ZjB (n:Nat):(Zu n).getLast?≠some 255:=by
 rw [Zu,List.getLast?_concat];intro h;have:=congrArg UInt8.toNat (Option.some.inj h);rw [UInt8.toNat_ofNat'] at this;have e3:(255:UInt8).toNat=255:=rfl;omega
theorem ZfV:∀ps:List (List UInt8),(ps.map fun p=>Zu p.length).flatten.getLast?≠some 255
 |[]=>by simp
 |p::ps=>by
  simp only [List.map_cons,List.flatten_cons,List.getLast?_append];have h1:=ZfV ps;have h2:=ZjB p.length
  revert h1;generalize (List.map (fun p=>Zu p.length) ps).flatten.getLast? =x
  intro h1;cases x with
  |none=>simpa using h2
  |some y=>simpa using h1
def ZI:Bool→List UInt8→Nat→List Pg→Except Nat (List (List UInt8))
 |op,_,i,[]=>if op then .error i else .ok []
 |op,acc,i,p::l=>
  if 255<p.laces.length∨p.body.length≠Zc p.laces∨(p.fl&&&1==1)≠op then .error i else
  let c:=ZE acc p.laces p.body
  match ZI (match p.laces.getLast? with|none=>op|some x=>x==255) c.2 (i+1) l with
  | .error k=> .error k
  | .ok r=> .ok (c.1++r)
def Zy (h:Pg):Nat→Nat→Bool→List UInt8→List UInt8→List Pg
 |0,_,_,_,_=>[]
 |fuel+1,k,op,laces,body=>
  if laces=[] then [] else
  let ls:=laces.take 255
  let n:=Zc ls
  ⟨if op then 1 else h.fl&&& ~~~1,if ls.any (· !=255) then h.pos else 18446744073709551615,h.ser,(h.num+k) % 4294967296,ls,body.take n⟩
   ::Zy h fuel (k+1) (ls.getLast? ==some 255) (laces.drop 255) (body.drop n)
theorem fl_off (x:UInt8):(x&&& ~~~(1:UInt8))&&&1=0:=by
 have h:∀n,n<256→(UInt8.ofNat n&&& ~~~(1:UInt8))&&&1=0:=by decide+kernel
 have:=h x.toNat x.toNat_lt
 rwa [UInt8.ofNat_toNat] at this
theorem Zjy (h:Pg):∀(fuel k i:Nat) (op:Bool) (acc laces body:List UInt8),laces.length≤fuel→body.length=Zc laces→
 laces.getLast?≠some 255→(laces=[]→op=false)→
 ZI op acc i (Zy h fuel k op laces body)= .ok (ZE acc laces body).1
 |0,k,i,op,acc,laces,body,hf,hb,hl,ho=>by
  have:laces=[]:=List.length_eq_zero_iff.mp (by omega);subst this;simp [Zy,ZI,ZE,ho rfl]
 |fuel+1,k,i,op,acc,laces,body,hf,hb,hl,ho=>by
  by_cases e:laces=[]
  · subst e;simp [Zy,ZI,ZE,ho rfl]
  · have hpos:0<laces.length:=List.length_pos_iff.mpr e;have hsplit:laces.take 255++laces.drop 255=laces:=List.take_append_drop 255 laces;have htot:Zc laces=Zc (laces.take 255)+Zc (laces.drop 255):=by rw [←ZcT,hsplit]
    have ne:laces.take 255≠[]:=by
     intro h0;have:=congrArg List.length h0;rw [List.length_take,List.length_nil] at this;omega
    have hfl:((if op then(1:UInt8) else h.fl&&& ~~~1)&&&1==1)=op:=by
     cases op
     · simp only [Bool.false_eq_true,if_false,fl_off];decide
     · simp only [if_true];decide
    have c1:¬(255<(laces.take 255).length∨(body.take (Zc (laces.take 255))).length≠Zc (laces.take 255)∨
     ((if op then(1:UInt8) else h.fl&&& ~~~1)&&&1==1)≠op):=by
     rw [hfl];rintro(h0|h0|h0)
     · rw [List.length_take] at h0;omega
     · rw [List.length_take] at h0;omega
     · exact h0 rfl
    have hop:(match(laces.take 255).getLast? with|none=>op|some x=>x==255)=((laces.take 255).getLast? ==some 255):=by
     cases hx:(laces.take 255).getLast? with
     |none=>exact absurd (List.getLast?_eq_none_iff.mp hx) ne
     |some x=>rfl
    have ih:=Zjy h fuel (k+1) (i+1) ((laces.take 255).getLast? ==some 255)
     (ZE acc (laces.take 255) (body.take (Zc (laces.take 255)))).2 (laces.drop 255) (body.drop (Zc (laces.take 255)))
     (by rw [List.length_drop];omega) (by rw [List.length_drop];omega)
     (by
      intro h0;apply hl
      rw [←hsplit,List.getLast?_append,h0];rfl)
     (by
      intro h0;have:laces.take 255=laces:=by rw [h0,List.append_nil] at hsplit;exact hsplit
      rw [this];simpa using hl)
    simp only [Zy,if_neg e,ZI,if_neg c1,hop,ih]
    conv=>rhs;rw [←hsplit,ZeB]
theorem Zpr (h:Pg)(ps:List (List UInt8))(fuel k:Nat)(hf:(ps.map fun p=>Zu p.length).flatten.length≤fuel):
 ZI false [] 0 (Zy h fuel k false (ps.map fun p=>Zu p.length).flatten ps.flatten)= .ok ps:=by
 rw [Zjy h fuel k 0 false [] _ _ hf (Zfp ps).symm (ZfV ps) (fun _=>rfl),ZiH]
structure Lf where
 text:List UInt8
 set:Nat
structure Nt where
 name:List UInt8
 leaf:Lf
structure Bk where
 vendor:Lf
 notes:List Nt
def Zbs (x:UInt8):Bool:=decide (32≤x.toNat)&&decide (x.toNat≤125)&& !(x==61)
def Zr:List UInt8→Nat
 |[]=>0
 |x::r=>if Zbs x then Zr r+1 else 0
theorem Zij:∀(n r:List UInt8),n.all Zbs=true→Zr (n++61::r)=n.length
 |[],r,_=>by simp [Zr,Zbs]
 |x::n,r,h=>by
  simp only [List.all_cons,Bool.and_eq_true] at h;simp [Zr,h.1,Zij n r h.2]
def ZS (s:InS):List UInt8×Nat×InS:=
 let n:=s.small 4
 let t:=n.2.take n.1
 (t.1,n.2.at_,t.2)
def Zdc (lf:List UInt8→Except (Nat×Nat) Lf)(s:InS)(b:List UInt8)(k:Nat):Lf×InS:=
 match lf b with
 | .ok l=>(l,s)
 | .error e=>(⟨[],0⟩,s.fail e.1 (k+e.2))
def ZbE (lf:List UInt8→Except (Nat×Nat) Lf)(s:InS):Nt×InS:=
 let p:=ZS s
 if p.2.2.e≠0 then(⟨[],⟨[],0⟩⟩,p.2.2) else
 let n:=Zr p.1
 if n=0∨p.1[n]?≠some 61 then(⟨[],⟨[],0⟩⟩,p.2.2.fail 1 (p.2.1+n)) else
 let l:=Zdc lf p.2.2 (p.1.drop (n+1)) (p.2.1+n+1)
 (⟨p.1.take n,l.1⟩,l.2)
def Zbe (lf:List UInt8→Except (Nat×Nat) Lf):Nat→InS→Option (List Nt)×InS
 |0,s=>(some [],s)
 |n+1,s=>if s.e≠0 then(none,s) else
  let p:=ZbE lf s
  match Zbe lf n p.2 with
  |(none,s')=>(none,s')
  |(some l,s')=>(some (p.1::l),s')
def ZdY (lf:List UInt8→Except (Nat×Nat) Lf)(framed:Bool)(s:InS):Option Bk×InS:=
 if s.e≠0 then(none,s) else
 let v:=ZS s
 if v.2.2.e≠0 then(none,v.2.2) else
 let l:=Zdc lf v.2.2 v.1 v.2.1
 let n:=l.2.small 4
 let s1:=if 4096<n.1 then n.2.fail 4 l.2.at_ else n.2
 match Zbe lf n.1 s1 with
 |(none,s')=>(none,s')
 |(some ns,s2)=>
  let s3:=if framed then(s2.want [1]).2 else s2
  let s4:=if 0<s3.left then s3.fail 1 s3.at_ else s3
  if s4.e≠0 then(none,s4) else(some ⟨l.1,ns⟩,s4)
def sizedB (b:List UInt8):List UInt8:=Zf b.length 4++b
def ZaZ (n:Nt):List UInt8:=sizedB (n.name++61::n.leaf.text)
def ZC (framed:Bool)(b:Bk):List UInt8:=
 sizedB b.vendor.text++(Zf b.notes.length 4++((b.notes.map ZaZ).flatten++if framed then [1] else []))
structure NtOk (lf:List UInt8→Except (Nat×Nat) Lf)(n:Nt):Prop where
 some:n.name≠[]
 name:n.name.all Zbs=true
 leaf:lf n.leaf.text= .ok n.leaf
 size:n.name.length+1+n.leaf.text.length<4294967296
structure BkOk (lf:List UInt8→Except (Nat×Nat) Lf)(b:Bk):Prop where
 vendor:lf b.vendor.text= .ok b.vendor
 size:b.vendor.text.length<4294967296
 notes:∀n∈b.notes,NtOk lf n
 many:b.notes.length≤4096
theorem Zk9 (b:Nat)(p x r:List UInt8)(h:x.length<4294967296):
 ZS (InS.mk' b p (sizedB x++r))=(x,(InS.mk' b (p++Zf x.length 4) (x++r)).at_,InS.mk' b (p++sizedB x) r):=by
 simp only [ZS,sizedB,List.append_assoc];rw [InS.small_mk _ _ _ _ 4 (by omega) (by simpa using h)];simp only [InS.take_mk,List.append_assoc]
theorem ZoX (lf:List UInt8→Except (Nat×Nat) Lf)(n:Nt)(ok:NtOk lf n)(b:Nat)(p r:List UInt8):
 ZbE lf (InS.mk' b p (ZaZ n++r))=(n,InS.mk' b (p++ZaZ n) r):=by
 have ez:∀b x y,(InS.mk' b x y).e=0:=fun _ _ _=>rfl;have hn:n.name.length≠0:=fun h=>ok.some (List.length_eq_zero_iff.mp h);have hd:(n.name++61::n.leaf.text).drop (n.name.length+1)=n.leaf.text:=by
  rw [List.drop_append,List.drop_of_length_le (by omega),show n.name.length+1 - n.name.length=1 by omega];rfl
 have ht:(n.name++61::n.leaf.text).take n.name.length=n.name:=by simp
 have hi:(n.name++61::n.leaf.text)[n.name.length]? =some 61:=by simp
 have hs:=Zk9 b p (n.name++61::n.leaf.text) r (by have:=ok.size;simp only [List.length_append,List.length_cons];omega);simp only [ZbE,ZaZ,hs,ez,ne_eq,not_true_eq_false,if_false,Zij _ _ ok.name,hn,hi,false_or,hd,ht,Zdc,ok.leaf]
theorem Zj0 (lf:List UInt8→Except (Nat×Nat) Lf):∀(l:List Nt),(∀n∈l,NtOk lf n)→∀(b:Nat) (p r:List UInt8),
 Zbe lf l.length (InS.mk' b p ((l.map ZaZ).flatten++r))=(some l,InS.mk' b (p++(l.map ZaZ).flatten) r)
 |[],_,b,p,r=>by simp [Zbe]
 |n::l,h,b,p,r=>by
  have ez:∀b x y,(InS.mk' b x y).e=0:=fun _ _ _=>rfl;have ih:=Zj0 lf l (fun m hm=>h m (by simp [hm])) b (p++ZaZ n) r;simp only [List.length_cons,Zbe,ez,ne_eq,not_true_eq_false,if_false,List.map_cons,List.flatten_cons,List.append_assoc,
   ZoX lf n (h n (by simp))]
  rw [ih];simp only [List.append_assoc]
theorem Znk (lf:List UInt8→Except (Nat×Nat) Lf)(framed:Bool)(k:Bk)(ok:BkOk lf k)(b:Nat)(p:List UInt8):
 ZdY lf framed (InS.mk' b p (ZC framed k))=(some k,InS.mk' b (p++ZC framed k) []):=by
 have ez:∀b x y,(InS.mk' b x y).e=0:=fun _ _ _=>rfl;have hm:=ok.many;have hm':¬4096<k.notes.length:=by omega
 simp only [ZdY,ZC,ez,ne_eq,not_true_eq_false,if_false,Zk9 _ _ _ _ ok.size,Zdc,ok.vendor];rw [InS.small_mk _ _ _ _ 4 (by omega) (by simp;omega)];simp only [if_neg hm',Zj0 lf k.notes ok.notes];cases framed
 · simp only [Bool.false_eq_true,if_false,InS.left_mk,List.length_nil,Nat.lt_irrefl,ez,not_true_eq_false,List.append_nil,List.append_assoc]
 · have hw:∀q,(InS.mk' b q [1]).want [1]=(true,InS.mk' b (q++[1]) []):=fun q=>by
    have:=InS.want_mk b q [1] []
    rwa [List.append_nil] at this
   simp only [if_true,hw,InS.left_mk,List.length_nil,Nat.lt_irrefl,if_false,ez,not_true_eq_false,List.append_assoc]
def cut2:List UInt8→Option (List UInt8×List UInt8)
 |x::y::r=>if x=0∧y=0 then some ([],r) else match cut2 r with|none=>none|some q=>some (x::y::q.1,q.2)
 |_=>none
def ZV (l:List UInt8):Nat:=l.countP (· !=255)
def ZaN:Nat→Nat→List Pg→Option Nat
 |_,_,[]=>none
 |n,i,p::l=>if 2≤n+ZV p.laces then some i else ZaN (n+ZV p.laces) (i+1) l
theorem ZiZ (n:Nat):ZV (Zu n)=1:=by
 have hx:(UInt8.ofNat (n % 255) !=255)=true:=by
  have h:=ZjB n;rw [Zu,List.getLast?_concat] at h;simpa using h
 rw [Zu,ZV,List.countP_append];have:List.countP (fun x:UInt8=>x !=255) (List.replicate (n / 255) 255)=0:=by
  rw [List.countP_eq_zero];intro a ha;rw [(List.mem_replicate.mp ha).2];decide
 rw [this];simp [hx]
theorem Zn3 (l:List UInt8)(h:l≠[])(hl:l.getLast?≠some 255):0<ZV l:=by
 rw [ZV,List.countP_pos_iff];refine⟨l.getLast h,List.getLast_mem h,?_⟩;rw [List.getLast?_eq_some_getLast h] at hl;simpa using hl
theorem ZkW (h:Pg)(tail_:List Pg):∀(fuel k i n:Nat) (op:Bool) (laces body:List UInt8),laces.length≤fuel→laces≠[]→
 laces.getLast?≠some 255→n+ZV laces=2→
 ZaN n i (Zy h fuel k op laces body++tail_)=some (i+(Zy h fuel k op laces body).length - 1)
 |0,k,i,n,op,laces,body,hf,hne,_,_=>absurd (List.length_eq_zero_iff.mp (by omega)) hne
 |fuel+1,k,i,n,op,laces,body,hf,hne,hl,hn=>by
  have hsplit:laces.take 255++laces.drop 255=laces:=List.take_append_drop 255 laces;have hpos:0<laces.length:=List.length_pos_iff.mpr hne;have he:ZV laces=ZV (laces.take 255)+ZV (laces.drop 255):=by
   conv=>lhs;rw [←hsplit]
   rw [ZV,List.countP_append];rfl
  simp only [Zy,if_neg hne,List.cons_append,ZaN,List.length_cons];by_cases hd:laces.drop 255=[]
  · have h0:ZV (laces.drop 255)=0:=by rw [hd];rfl
    rw [if_pos (by omega)];have:Zy h fuel (k+1) ((laces.take 255).getLast? ==some 255) (laces.drop 255) (body.drop (Zc (laces.take 255)))=[]:=by
     cases fuel<;>simp [Zy,hd]
    rw [this];simp
  · have hl2:(laces.drop 255).getLast?≠some 255:=by
     intro h0;apply hl;rw [←hsplit,List.getLast?_append,h0];rfl
    have hp:=Zn3 _ hd hl2;rw [if_neg (by omega)];have hlen:0<(laces.drop 255).length:=List.length_pos_iff.mpr hd;rw [ZkW h tail_ fuel (k+1) (i+1) (n+ZV (laces.take 255)) _ (laces.drop 255) _ (by rw [List.length_drop];omega) hd hl2 (by omega)];congr 1;omega
theorem Zqc (h:Pg)(a b:List UInt8)(fuel k:Nat)(tail_:List Pg)(hf:([a,b].map fun p=>Zu p.length).flatten.length≤fuel):
 ZaN 0 1 (Zy h fuel k false ([a,b].map fun p=>Zu p.length).flatten [a,b].flatten++tail_)=
  some (Zy h fuel k false ([a,b].map fun p=>Zu p.length).flatten [a,b].flatten).length:=by
 have hne:([a,b].map fun p=>Zu p.length).flatten≠[]:=by simp [Zu]
 have he:0+ZV ([a,b].map fun p=>Zu p.length).flatten=2:=by
  have h1:=ZiZ a.length;have h2:=ZiZ b.length;simp only [ZV] at h1 h2⊢;simp only [List.map_cons,List.map_nil,List.flatten_cons,List.flatten_nil,List.append_nil,List.countP_append,h1,h2]
 rw [ZkW h tail_ fuel k 1 0 false _ _ hf hne (ZfV [a,b]) he];congr 1;omega
def Zbh (ser:Nat):Nat→List Pg→Option Nat
 |_,[]=>none
 |i,p::l=>if p.ser≠ser∨p.num≠i % 4294967296∨(0<i∧p.fl&&&2=2) then some i else Zbh ser (i+1) l
def Zt:Nat→List Pg→List Pg
 |_,[]=>[]
 |i,p::l=>{p with num:=i % 4294967296}::Zt (i+1) l
theorem Zli (ser:Nat):∀(l:List Pg) (i:Nat),(∀p∈l,p.ser=ser∧¬(p.fl&&&2=2))→Zbh ser i (Zt i l)=none
 |[],_,_=>rfl
 |p::l,i,h=>by
  have hp:=h p (by simp);have c:¬(p.ser≠ser∨i % 4294967296≠i % 4294967296∨(0<i∧p.fl&&&2=2)):=by
   rintro(h|h|h)
   · exact h hp.1
   · exact h rfl
   · exact hp.2 h.2
  simp only [Zt,Zbh,if_neg c];exact Zli ser l (i+1) (fun q hq=>h q (by simp [hq]))
theorem Zlj (h:Pg)(h0:h.fl=0)(t:List Pg):∀(fuel k i:Nat) (op:Bool) (laces body:List UInt8),h.num+k=i→
 Zbh h.ser i (Zy h fuel k op laces body++t)=Zbh h.ser (i+(Zy h fuel k op laces body).length) t
 |0,k,i,op,laces,body,_=>by simp [Zy]
 |fuel+1,k,i,op,laces,body,hi=>by
  by_cases e:laces=[]
  · simp [Zy,e]
  · have hfl:¬((if op then(1:UInt8) else h.fl&&& ~~~1)&&&2=2):=by
     rw [h0];cases op<;>decide
    have c:¬(h.ser≠h.ser∨(h.num+k) % 4294967296≠i % 4294967296∨(0<i∧(if op then(1:UInt8) else h.fl&&& ~~~1)&&&2=2)):=by
     rintro(h1|h1|h1)
     · exact h1 rfl
     · exact h1 (by rw [hi])
     · exact hfl h1.2
    simp only [Zy,if_neg e,List.cons_append,Zbh,if_neg c,List.length_cons];rw [Zlj h h0 t fuel (k+1) (i+1) _ _ _ (by omega)];congr 1;omega
def ZaY (ser:Nat)(a b:List UInt8):List Pg:=
 Zy ⟨0,0,ser,1,[],[]⟩ ([a,b].map fun p=>Zu p.length).flatten.length 0 false ([a,b].map fun p=>Zu p.length).flatten [a,b].flatten
def ZcL (first:Pg)(a b:List UInt8)(sound:List Pg):List Pg:=
 first::(ZaY first.ser a b++Zt (1+(ZaY first.ser a b).length) sound)
theorem Zqx (first:Pg)(a b:List UInt8)(sound:List Pg)(hn:first.num=0)
 (hs:∀p∈sound,p.ser=first.ser∧¬(p.fl&&&2=2)):
 Zbh first.ser 0 (ZcL first a b sound)=none∧
 ZaN 0 1 ((ZcL first a b sound).drop 1)=some (ZaY first.ser a b).length∧
 ZI false [] 0 (((ZcL first a b sound).drop 1).take (ZaY first.ser a b).length)= .ok [a,b]∧
 (ZcL first a b sound).drop (1+(ZaY first.ser a b).length)=Zt (1+(ZaY first.ser a b).length) sound:=by
 have hd:(ZcL first a b sound).drop 1=ZaY first.ser a b++Zt (1+(ZaY first.ser a b).length) sound:=rfl;refine⟨?_,?_,?_,?_⟩
 · have c:¬(first.ser≠first.ser∨first.num≠0 % 4294967296∨(0<0∧first.fl&&&2=2)):=by
    rintro(h|h|h)
    · exact h rfl
    · exact h (by rw [hn])
    · omega
   simp only [ZcL,Zbh,if_neg c];have:=Zlj ⟨0,0,first.ser,1,[],[]⟩ rfl (Zt (1+(ZaY first.ser a b).length) sound)
    ([a,b].map fun p=>Zu p.length).flatten.length 0 1 false ([a,b].map fun p=>Zu p.length).flatten [a,b].flatten rfl
   simp only [] at this;rw [show(0+1:Nat)=1 from rfl];exact this.trans (Zli first.ser sound _ hs)
 · rw [hd];exact Zqc _ a b _ 0 _ (Nat.le_refl _)
 · rw [hd,List.take_append_of_le_length (Nat.le_refl _),List.take_of_length_le (Nat.le_refl _)];exact Zpr _ [a,b] _ 0 (Nat.le_refl _)
 · rw [←List.drop_drop,hd,List.drop_left]
end Go.Proofs.YtnbkfkbcpfkddaaGreatDoor
