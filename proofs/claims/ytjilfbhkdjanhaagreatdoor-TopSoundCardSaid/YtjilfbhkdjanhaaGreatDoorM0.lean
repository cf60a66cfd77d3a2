/- Short names of what the kit has. Conditions: none. -/
import Derived.Lib.Hide
import Derived.Calls
set_option linter.all false
namespace Go.Proofs.YtjilfbhkdjanhaaGreatDoor
open Go Go.RowKit
theorem QQ {p:Prop} (h:p):Hid p:=Lib.hid h
theorem NL{a:Nat}:a≤a:=Nat.le_refl a
theorem MR{p:Program}{f:FuncId}{a:Array Value}{w:World}{v:Ending}{B:World→Prop}{Q:Ending→World→Prop}(h:Calls p f a w fun e w'=>e=v∧B w')(k:∀w',B w'→Q v w'):Calls p f a w Q:=h.mono fun e w' ⟨x,y⟩=>x▸k w' y
end Go.Proofs.YtjilfbhkdjanhaaGreatDoor
