-- Words of the kit's printer, as far as this claim reaches them (chosen by wip/tools/prune.py).
import Derived.Test.YtgjhlkjfdlkndaaVFnBothWords
namespace Go.Proofs.YtgjhlkjfdlkndaaW.PrintWords
open Go.RowKit
end Go.Proofs.YtgjhlkjfdlkndaaW.PrintWords
