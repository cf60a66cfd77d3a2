/- Lemmas for TopVersions; conditions: as each says. -/
import Derived.Test.YtlhllehffkoloaaGreatDoorM4
import Derived.Test.YtlhllehffkoloaaGreatDoorM21
set_option linter.unusedVariables false
set_option linter.unusedSimpArgs false
set_option maxRecDepth 100000
set_option maxHeartbeats 4000000
namespace Go.Proofs.YtlhllehffkoloaaGreatDoor
open Go Go.RowKit
def Zam (l:List UInt8):Bool:=l.take 2==[254,255]
def Zbs (l:List UInt8):Bool:=l.take 2==[254,255]||l.take 2==[255,254]
theorem Zn9 (s:ByteArray)(h:¬1<s.size):Zam s.data.toList=false∧Zbs s.data.toList=false:=by
 have hl:s.data.toList.length=s.size:=by simp
 generalize s.data.toList=l at*
 match l,hl with
 |[],_=>decide
 |[x],_=>simp [Zam,Zbs]
 |_::_::_,h=>simp at h;omega
theorem ZsA (s:ByteArray):(s.extract 0 2).toList=s.data.toList.take 2:=by
 rw [ByteArray.toList_eq];simp [ByteArray.data_extract,Array.toList_extract,List.extract]
theorem Zfl (s:ByteArray)(hs:s.size≤140737488355328)(w:World):
 Calls Tryz.prog 257 #[.string s] w fun e w'=>e= .returned (.tuple #[.bool (Zam s.data.toList),.bool (Zbs s.data.toList)])∧Below w.heap.size w w':=by
 by_cases h2:1<s.size
 · have hx:=Lib.hid (ZsA s);go_enter Tryz.func257,Tryz.ntmps257
   go_wp2_with fail
   all_goals go_ret2
   all_goals refine⟨?_,Below.refl _ _⟩
   all_goals rename_i hq
   all_goals rw [hx.out] at hq
   · simp [Zam,Zbs,hq]
   · simp only [Zam,Zbs,hx.out];rfl
 · obtain⟨e1,e2⟩:=Zn9 s h2;have H1:=Lib.hid e1;have H2:=Lib.hid e2;clear e1 e2;rw [H1.out,H2.out];go_enter Tryz.func257,Tryz.ntmps257
   go_wp2_with fail
   go_ret2
   exact⟨rfl,Below.refl _ _⟩
theorem Zod (w:World)(o:Obj):(w.alloc o).heap.size=w.heap.size+1:=by simp
theorem ZpO (w:World):
 Calls Tryz.prog 228 #[.string ⟨#[]⟩] w fun e w'=>e= .returned (.tuple #[.string ⟨#[]⟩,.agg #[.int .i64 0,.int .i64 0]])∧Below w.heap.size w w':=by
 go_enter Tryz.func228,Tryz.ntmps228
 go_wp2_with fail
 refine bodyPost_ret (v:= .tuple #[.string ⟨#[]⟩,.agg #[.int .i64 0,.int .i64 0]]) (by simp [results,Tryz.results228,go_sem]) rfl ⟨rfl,?_⟩;exact(Below.refl w.heap.size w).alloc (Nat.le_refl _) _
theorem ZiZ (s:ByteArray)(h0:0<s.size):s.toList.isEmpty=false:=by
 rw [ByteArray.toList_eq];have hl:s.data.toList.length=s.size:=by simp
 generalize s.data.toList=l at*
 match l,hl with
 |[],hl=>simp at hl;omega
 |_::_,_=>rfl
theorem ZpQ (s:ByteArray)(h0:0<s.size)(hs:s.size≤35184372088000)(hm:Zbs s.data.toList=false)(w:World):
 Calls Tryz.prog 228 #[.string s] w fun e w'=>e= .returned (.tuple #[.string ⟨#[]⟩,.agg #[.int .i64 2,.int .i64 0]])∧Below w.heap.size w w':=by
 have hk:=fun w=>Zfl s (by omega) w;rw [hm] at hk;have hne:=ZiZ s (by omega);go_enter Tryz.func228,Tryz.ntmps228
 go_wp2_with (go_at_call 257;refine(hk _).mono ?_;rintro e w1 ⟨rfl,hb1⟩;have hz1:=Zac hb1;obtain⟨hc0,hc1,hf0,hf1,hlt1⟩:=ZaD (hb1.mono (by simp)))
 refine bodyPost_ret (v:= .tuple #[.string ⟨#[]⟩,.agg #[.int .i64 2,.int .i64 0]]) (by simp [results,Tryz.results228,go_sem,hc0,hc1]) rfl ⟨rfl,?_⟩;exact((((Below.refl _ w).alloc (Nat.le_refl _) _).trans (hb1.mono (by simp))).setCell (Nat.le_refl _) _).setCell (Nat.le_refl _) _
theorem ZmD {s:ByteArray} (h:Zbs s.data.toList=true):2≤s.size:=by
 by_cases h2:1<s.size
 · exact h2
 · rw [(Zn9 s h2).2] at h;cases h
def behind (s:ByteArray):ByteArray:=s.extract 2 s.size
theorem Zh3 (s:ByteArray):(behind s).size=s.size - 2:=by simp [behind]
theorem ZpP (s:ByteArray)(ps:List Int)(hm:Zbs s.data.toList=true)(hp:ZeD (Zam s.data.toList) (behind s) ps)(hs:s.size≤35184372088000)(w:World):
 Calls Tryz.prog 228 #[.string s] w fun e w'=>e= .returned (.tuple #[.string ⟨(Zc ps).toArray⟩,.agg #[.int .i64 0,.int .i64 0]])∧Below w.heap.size w w':=by
 have h2:=ZmD hm;have hk:=fun w=>Zfl s (by omega) w;rw [hm] at hk;have hd:=fun w=>ZkV (Zam s.data.toList) (behind s) ps hp (by rw [Zh3 s];omega) w;unfold behind at hd;have hne:=ZiZ s (by omega);clear hp;generalize Zam s.data.toList=big at*;go_enter Tryz.func228,Tryz.ntmps228
 go_wp2_with (first|(go_at_call 257;refine(hk _).mono ?_;rintro e w1 ⟨rfl,hb1⟩;have hz1:=Zac hb1;have HB1:=hb1.mono (B':=w.heap.size+1) (by simp))|(go_at_call 111;refine(hd _).mono ?_;rintro e w2 ⟨rfl,hb2⟩;have HB2:=HB1.trans (hb2.mono hz1);have hz2:=HB2.size))
 refine(Zcy _ _ _).mono ?_;rintro e w3 ⟨rfl,hb3⟩;simp only [Zod] at hz2;have hz3:=Zac hb3;obtain⟨hd0,hd1,he0,he1,hlt2⟩:=ZaD (hb3.mono (by simp));have HB3:=(HB2.alloc (by omega) _).trans (hb3.mono (by simp;omega));obtain⟨hc0,hc1,hf0,hf1,hlt3⟩:=ZaD HB3;go_wp2_with fail
 go_region
 go_wp2_with fail
 refine bodyPost_ret (v:= .tuple #[.string ⟨(Zc ps).toArray⟩,.agg #[.int .i64 0,.int .i64 0]]) (by simp [results,Tryz.results228,go_sem,hc0,hc1]) rfl ⟨rfl,?_⟩;exact(((((Below.refl _ w).alloc (Nat.le_refl _) _).trans (HB3.mono (by omega))).setCell (Nat.le_refl _) _).setCell (Nat.le_refl _) _).drew
theorem ZpN (s:ByteArray)(n:Nat)(hm:Zbs s.data.toList=true)(hp:Zfs (Zam s.data.toList) (behind s) n)(hs:s.size≤35184372088000)(w:World):
 Calls Tryz.prog 228 #[.string s] w fun e w'=>e= .returned (.tuple #[.string ⟨#[]⟩,.agg #[.int .i64 2,.int .i64 (n+2)]])∧Below w.heap.size w w':=by
 have h2:=ZmD hm;have hk:=fun w=>Zfl s (by omega) w;rw [hm] at hk;have hn:n≤s.size:=by
  obtain⟨ps,r,h1,h3,_,_⟩:=hp;have:=congrArg List.length h1.1;rw [List.length_append,←h3] at this;have hl:(behind s).data.toList.length=(behind s).size:=by simp
  rw [hl,Zh3] at this;omega
 have hd:=fun w=>ZkU (Zam s.data.toList) (behind s) n hp (by rw [Zh3 s];omega) w;unfold behind at hd;have hne:=ZiZ s (by omega);clear hp;generalize Zam s.data.toList=big at*;go_enter Tryz.func228,Tryz.ntmps228
 go_wp2_with (first|(go_at_call 257;refine(hk _).mono ?_;rintro e w1 ⟨rfl,hb1⟩;have hz1:=Zac hb1;have HB1:=hb1.mono (B':=w.heap.size+1) (by simp))|(go_at_call 111;refine(hd _).mono ?_;rintro e w2 ⟨rfl,hb2⟩;have HB2:=HB1.trans (hb2.mono hz1);have hz2:=HB2.size))
 refine(Zcy _ _ _).mono ?_;rintro e w3 ⟨rfl,hb3⟩;simp only [Zod] at hz2;have hz3:=Zac hb3;obtain⟨hd0,hd1,he0,he1,hlt2⟩:=ZaD (hb3.mono (by simp));have HB3:=(HB2.alloc (by omega) _).trans (hb3.mono (by simp;omega));obtain⟨hc0,hc1,hf0,hf1,hlt3⟩:=ZaD HB3;go_wp2_with fail
 go_region
 go_wp2_with fail
 refine bodyPost_ret (v:= .tuple #[.string ⟨#[]⟩,.agg #[.int .i64 2,.int .i64 (n+2)]]) (by simp [results,Tryz.results228,go_sem,hc0,hc1]) rfl ⟨rfl,?_⟩;exact((((((Below.refl _ w).alloc (Nat.le_refl _) _).trans (HB3.mono (by omega))).setCell (p:=⟨w2.heap.size,1,none⟩) (by simp;omega) _).setCell (p:=⟨w.heap.size,0,none⟩) (Nat.le_refl _) _).setCell (p:=⟨w.heap.size,1,none⟩) (Nat.le_refl _) _).drew
theorem ZmE (a b:List UInt8):Lib.join [a,b] []=a++b:=by simp [Lib.join]
theorem ZpY (a b:ByteArray)(c:Nat)(w:World)(bk:Nat)(h0:w.cell? ⟨bk,0,none⟩=some (.string a))(h1:w.cell? ⟨bk,1,none⟩=some (.string b))(hc:2≤c)(hl:a.size+b.size≤35184372089000):
 Calls Tryz.prog 19 #[.slice (some ⟨bk,0,none⟩) 2 c] w fun e w'=>e= .returned (.string ⟨(a.data.toList++b.data.toList).toArray⟩)∧Below w.heap.size w w':=by
 have hj:Calls Tryz.prog 44 #[.slice (some ⟨bk,0,none⟩) 2 c,.string ⟨#[]⟩] w fun e w'=>e= .returned (.string ⟨(a.data.toList++b.data.toList).toArray⟩)∧Below w.heap.size w w':=by
  have hq:=Tryz.strings_Join bk 0 c [a,b] ⟨#[]⟩ w (by
   intro j x hx
   match j,hx with
   |0,hx=>simp at hx;subst hx;exact h0
   |1,hx=>simp at hx;subst hx;exact h1) (Zlp h0) (by simp) hc (by simp [ZmE];omega)
  simpa [ZmE] using hq
 go_enter Tryz.func19,Tryz.ntmps19
 go_wp2_with (go_at_call 44;refine hj.mono ?_;rintro e w1 ⟨rfl,hb1⟩)
 go_ret
 exact⟨rfl,hb1⟩
theorem Zra (s:ByteArray)(ps:List Int)(hg:Good s ps)(hs:s.size≤8796093022000)(w:World)(hT:Zk w):
 Calls Tryz.prog 227 #[.string s] w fun e w'=>e= .returned (.tuple #[.string ⟨([255,254]++Zl false ps).toArray⟩,.agg #[.int .i64 0,.int .i64 0]])∧Below w.heap.size w w':=by
 have hlen:=hg.len;have hwl:=(Zeb false ps).2;have hbs:(⟨(Zl false ps).toArray⟩:ByteArray).size=(Zl false ps).length:=rfl;have hbd:(⟨(Zl false ps).toArray⟩:ByteArray).data.toList=Zl false ps:=rfl;have hE:=fun(w:World) (hT:Zk w)=>Zq7 false s ps hg (by omega) w hT;generalize hX:(⟨(Zl false ps).toArray⟩:ByteArray)=X at*;go_enter Tryz.func227,Tryz.ntmps227
 go_wp2_with (go_at_call 284;refine(hE _ (ZN hT _)).mono ?_;rintro e w1 ⟨rfl,hb1⟩;have hz1:=Zac hb1;have HB1:=hb1.mono (B':=w.heap.size+1) (by simp))
 refine(Zcy _ _ _).mono ?_;rintro e w3 ⟨rfl,hb3⟩;have hz3:=Zac hb3;have HB3:=(HB1.alloc (by omega) _).trans (hb3.mono (by simp;omega));have hj:=fun c hc=>ZpY ⟨#[255,254]⟩ X c (w3.alloc (.cells #[.string ⟨#[255,254]⟩,.string X] 9)) w3.heap.size (ZcG w3 _ _ 9 0 _ rfl) (ZcG w3 _ _ 9 1 _ rfl) hc (by rw [hbs];simp [ByteArray.size];omega);go_wp2_with (go_at_call 19;refine(hj _ (by decide)).mono ?_;rintro e w4 ⟨rfl,hb4⟩;have hz4:=Zac hb4;have HB4:=(HB3.alloc (by omega) _).trans (hb4.mono (by simp;omega));obtain⟨hc0,hc1,hf0,hf1,hlt3⟩:=ZaD HB4)
 refine bodyPost_ret (v:= .tuple #[.string ⟨([255,254]++Zl false ps).toArray⟩,.agg #[.int .i64 0,.int .i64 0]]) (by simp [results,Tryz.results227,go_sem,hc0,hc1]) rfl ⟨rfl,?_⟩;exact((((Below.refl _ w).alloc (Nat.le_refl _) _).trans (HB4.mono (by omega))).setCell (Nat.le_refl _) _).setCell (Nat.le_refl _) _
def twoB:List (Int×Int×Int)→List Int→Int
 |[],_=> -1
 |t::r,l=>if 1<l.length∧l.getD 0 0=t.2.1∧l.getD 1 0=t.2.2 then t.1 else twoB r l
def Zd4 (c:Int):List UInt8:=[(c / 256).toNat.toUInt8,(c % 256).toNat.toUInt8]
def ZgC (p:Int):Int:=if p<0∨65535<p then -1 else Zfz SP p
def ZeF (l:List Int):List UInt8×Int:=
 if l=[] then([],0) else if 0≤twoB TW l then(Zd4 (136*256+twoB TW l),2) else if 0≤ZgC (l.getD 0 0) then(Zd4 (ZgC (l.getD 0 0)),1) else([],0)
theorem two_bytes:ZeF [202,772]=(Zd4 (136*256+98),2)∧ZeF [202,780]=(Zd4 (136*256+100),2)∧ZeF [234,772]=(Zd4 (136*256+163),2)∧ZeF [234,780]=(Zd4 (136*256+165),2):=by decide+kernel
theorem back (lead b:Int)(h:ZaJ lead b≠[]):ZeF (ZaJ lead b)=(Zd4 (lead*256+b),((ZaJ lead b).length:Int)):=by
 by_cases h1:ZZ lead b=0
 · have e:ZaJ lead b=ZbG lead b:=by unfold ZaJ;rw [if_neg (by simp [h1])]
   rw [e] at h⊢;by_cases h136:lead=136
   · subst h136;obtain⟨t1,t2,t3,t4⟩:=two_bytes;simp only [ZbG,TW,ZbY] at h⊢;by_cases k0:b=98
     · subst k0;exact t1
     by_cases k1:b=100
     · subst k1;exact t2
     by_cases k2:b=163
     · subst k2;exact t3
     by_cases k3:b=165
     · subst k3;exact t4
     simp [k0,k1,k2,k3] at h
   · rw [Zv0 h136] at h;exact absurd rfl h
 · have e:ZaJ lead b=[ZZ lead b]:=by unfold ZaJ;rw [if_pos h1]
   rw [e];have hs:=Znb lead b;have hc:0≤ZF b:=by
    have:=(Zh8 b).1;by_cases hc:ZF b<0
    · exact absurd (if_pos hc) h1
    · omega
   have hz:ZZ lead b=ZV SP lead (ZF b):=if_neg (by omega);have hf:ZgC (ZZ lead b)=lead*256+b:=by
    rcases(Znc lead b hc).2 with h0|h0
    · rw [←hz] at h0;exact absurd h0 h1
    · unfold ZgC;rw [if_neg (by omega),hz];exact h0
   have ht:twoB TW [ZZ lead b]= -1:=by simp [TW,twoB]
   have hpos:0≤lead*256+b:=by
    have:0≤lead:=by
     by_cases hl:0≤lead
     · exact hl
     · have:=(Znc lead b hc).1;rw [←hz] at this;unfold rOne rowL at this;rw [if_neg (by omega),if_neg (by omega),if_neg (by omega),if_neg (by omega),if_neg (by omega),if_neg (by omega)] at this;exact absurd this h1
    have hb:0≤b:=by unfold ZF at hc;repeat' split at hc
                    all_goals omega
    omega
   unfold ZeF;rw [if_neg (by simp),ht,if_neg (by decide)];have e0:[ZZ lead b].getD 0 0=ZZ lead b:=rfl;rw [e0,hf,if_pos hpos];rfl
theorem ZkB (u:Int)(hu:0≤u∧u<65536)(big:Bool)(w:World):
 Calls Tryz.prog 35 #[.int .i32 u,.bool big] w fun e w'=>e= .returned (.string ⟨(two big u).toArray⟩)∧Below w.heap.size w w':=by
 have h0:=hu.1;have h1:=hu.2;have hc:∀(a b:Int) (c:Nat) (w:World),_:=fun a b c w=>Zih (P:=Tryz.prog) 105 9 5 Tryz.underlying105 Tryz.underlying5 Tryz.underlying9 w a b c;go_enter Tryz.func35,Tryz.ntmps35
 cases big
 · go_wp2_with fail
   go_ret
   exact⟨rfl,(Below.refl _ _).alloc (Nat.le_refl _) _⟩
 · go_wp2_with fail
   go_ret
   exact⟨rfl,(Below.refl _ _).alloc (Nat.le_refl _) _⟩
def Zqf (big:Bool)(ps:List Int)(w0:World)(s i:Value)(wr:World):Prop:=∃k:Nat,k≤ps.length∧i= .int .i64 k∧s= .string ⟨(Zl big (ps.take k)).toArray⟩∧Below w0.heap.size w0 wr
theorem Zqg (big:Bool)(A:Option Addr)(c:Nat)(ps:List Int)(w:World){B:Nat} (hn:Zar w B .i32 A ps)(hB:B≤w.heap.size)(hps:∀p∈ps,Zi p=true)(hl:ps.length≤1000000):
 Calls Tryz.prog 15 #[.slice A ps.length c,.bool big] w fun e w'=>e= .returned (.string ⟨(Zl big ps).toArray⟩)∧Below w.heap.size w w':=by
 go_enter Tryz.func15,Tryz.ntmps15
 go_wp2
 go_loopw [5,6] (fun s i wr=>Zqf big ps w s i wr) (fun _ i _=>ps.length - (intOf i).toNat)
 case atStart=>exact⟨0,Nat.zero_le _,rfl,rfl,Below.refl _ _⟩
 case round=>
  obtain⟨k,hk,rfl,rfl,hb⟩:=hrel;have hnr:=hn.below (hb.mono hB);have hsz:=hb.size;by_cases hlt:k<ps.length
  · obtain⟨ad,p,rfl,_,hc,hp,hm⟩:=hnr.get hlt;have hs:=Zai.1 (hps p hm);have h4:=(Zeb big (ps.take k)).2;rw [List.length_take] at h4;have hnext:Hid (Zl big (ps.take (k+1))=Zl big (ps.take k)++Zaw big p):=by
     rw [Zdi hlt,hp.out,Zww];rfl
    clear hnr hn hps;by_cases hlow:p<65536
    · have hez:Hid (Zaw big p=two big p):=if_pos hlow;have hl2:=Zhn big p;go_wp2_with (go_at_call 35;refine(ZkB _ ⟨by omega,by omega⟩ big _).mono ?_;rintro e w1 ⟨rfl,hb1⟩)
      go_roundw
      case rel=>exact⟨k+1,by omega,by go_num,by rw [hnext.out,hez.out,←ZiV],hb.trans (hb1.mono hb.size)⟩
      case measure=>simp [intOf];omega
    · have hez:Hid (Zaw big p=two big (55296+(p - 65536) / 1024)++two big (56320+(p - 65536) % 1024)):=if_neg hlow;have hl2:=Zhn big (55296+(p - 65536) / 1024);have hl3:=Zhn big (56320+(p - 65536) % 1024);go_wp2_with (go_at_call 35;refine(ZkB _ ⟨by omega,by omega⟩ big _).mono ?_;first|(have hx:=hsz;clear hsz hx;rintro e w1 ⟨rfl,hb1⟩;have hb2:=hb.trans (hb1.mono hb.size))|(rintro e w2 ⟨rfl,hb3⟩))
      go_roundw
      case rel=>exact⟨k+1,by omega,by go_num,by rw [hnext.out,hez.out,←List.append_assoc,←ZiV,←ZiV],hb2.trans (hb3.mono hb2.size)⟩
      case measure=>simp [intOf];omega
  · have hk2:k=ps.length:=by omega
    subst hk2;rw [List.take_length];clear hnr hn hps;go_wp2
    go_ret
    exact⟨rfl,hb⟩
end Go.Proofs.YtlhllehffkoloaaGreatDoor
