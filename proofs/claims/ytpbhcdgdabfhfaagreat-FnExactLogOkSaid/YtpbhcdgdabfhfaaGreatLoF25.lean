/- Walks of functions of the program, printed by a program of the prover. -/
import Derived.Test.YtpbhcdgdabfhfaaGreatLoF20
import Derived.Test.YtpbhcdgdabfhfaaGreatLoVP
namespace Go.Proofs.YtpbhcdgdabfhfaaGreat
open Go.ChangeShapes Go.WideShapes Go.ChangeAt Go.RowKit
set_option linter.unusedVariables false
set_option linter.unusedSimpArgs false
set_option maxHeartbeats 1000000
set_option maxRecDepth 100000
attribute [local irreducible] EvL Ev EvE Quiet Eff Pure RDk RDb RDo
@[reducible] def wF (x : Int × List Int) : List C := [iC x.1, ints x.2]
@[reducible] def wH (x : Int × List Int) : List C := [iC x.1, .hole]
end Go.Proofs.YtpbhcdgdabfhfaaGreat
