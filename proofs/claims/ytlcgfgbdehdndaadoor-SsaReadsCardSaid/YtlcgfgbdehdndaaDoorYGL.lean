/- Contract of line.Walk over diacritic/lrc.Pieces; condition: at most 100,000 bytes. -/
import Derived.Test.YtlcgfgbdehdndaaDoorYG
set_option maxRecDepth 100000
set_option maxHeartbeats 4000000
namespace Go.Proofs.YtlcgfgbdehdndaaDoor
open Go Go.RowKit

end Go.Proofs.YtlcgfgbdehdndaaDoor
