/- KindOf of the program and of the reference, and the law. -/
import Derived.Test.YtmjafclpeknpcaaRows2
namespace Go.Proofs.Ytmjafclpeknpcaa
open Go.RowKit
set_option maxHeartbeats 400000
end Go.Proofs.Ytmjafclpeknpcaa
