/- Contracts: package point's scan, and what stands on it (Check, Count); Fault.Bad. -/
import Derived.Test.YtnalckiibcbgoaaRows
import Derived.Test.YtnalckiibcbgoaaLaws
import Derived.Test.YtnalckiibcbgoaaMathR
import Derived.WalkKit
import Derived.WalkSpells
import Derived.Outline
import Derived.Deep.DeepFit
namespace Go.Proofs.Ytnalckiibcbgoaa
open Go Go.RowKit

end Go.Proofs.Ytnalckiibcbgoaa
