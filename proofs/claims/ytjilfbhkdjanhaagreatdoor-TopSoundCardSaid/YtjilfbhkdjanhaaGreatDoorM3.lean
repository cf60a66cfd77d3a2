/- Lemmas for a statement on the tops; conditions: as each says. -/
import Derived.Test.YtjilfbhkdjanhaaGreatDoorM2
set_option linter.all false
set_option maxRecDepth 100000
set_option maxHeartbeats 1000000
open Go.Proofs.Tryz
namespace Go.Proofs.YtjilfbhkdjanhaaGreatDoor
open Go Go.RowKit
def Zjk:∀xs:List (List UInt8),Lib.join xs []=xs.flatten
 |[]=>by simp[Lib.join]
 |[x]=>by simp[Lib.join]
 |x::y::xs=>by
  have:=Zjk (y::xs);simp[Lib.join] at this⊢;exact this
def Zq6(C c:Nat)(xs:List (List UInt8))(w:World)(q:∀(j:Nat) x,xs[j]?=some x->w.cell? ⟨C,j,none⟩=some (.string (B x)))(h0:xs≠[])(u:xs.length<=c)(W:xs.flatten.length<=35184372089000)(hn:xs.length<=35184372089000):
 Calls prog 35 #[.slice (some ⟨C,0,none⟩) xs.length c] w λe w'=>e=.returned (.string (B xs.flatten))/\Below w.heap.size w w':=by
 have I:C<w.heap.size:=by
  obtain⟨x,l,rfl⟩:=List.exists_cons_of_ne_nil h0;exact World.block_lt_of_cell? _ _ (q 0 x rfl)
 have N:(xs.map B).map (·.data.toList)=xs:=by
  rw[List.map_map]
  conv=>rhs;rw[<-List.map_id xs]
  exact List.map_congr_left λx _=>Z9 x
 have U:Calls prog 67 #[.slice (some ⟨C,0,none⟩) xs.length c,.string ⟨#[]⟩] w λe w'=>e=.returned (.string (B xs.flatten))/\Below w.heap.size w w':=by
  have D:=strings_Join C 0 c (xs.map B) ⟨#[]⟩ w (by
   intro j x L;rw[List.getElem?_map] at L;obtain⟨y,O,rfl⟩:=Option.map_eq_some_iff.1 L;rw[Nat.zero_add];exact q j y O) I (by rw[List.length_map];omega) (by rw[List.length_map];exact u) (by
    rw[N];show(Lib.join xs []).length<=_
    rw[Zjk];omega)
  rw[List.length_map,N] at D;have e:Lib.join xs (⟨#[]⟩:ByteArray).data.toList=xs.flatten:=Zjk xs;rw[e] at D;exact D
 go_enter func35,ntmps35
 go_wp2_with (go_at_call 67;refine U.mono ?_;rintro e V ⟨rfl,J⟩)
 go_ret
 exact⟨rfl,J⟩
