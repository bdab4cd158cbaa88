-- Words of the kit's printer, as far as this claim reaches them (chosen by wip/tools/prune.py).
import Derived.Test.YtdeleoghaabjlaaVFnBridgesWords
import Derived.Test.YtdeleoghaabjlaaVFnBridgesLast
namespace Go.Proofs.YtdeleoghaabjlaaW.PrintWords
open Go.RowKit
end Go.Proofs.YtdeleoghaabjlaaW.PrintWords
