/- Walks of functions of the program, printed by a program of the prover. -/
import Derived.Test.YtpbhcdgdabfhfaaGreatLoF10
namespace Go.Proofs.YtpbhcdgdabfhfaaGreat
open Go.ChangeShapes Go.WideShapes Go.ChangeAt Go.RowKit
set_option linter.unusedVariables false
set_option linter.unusedSimpArgs false
set_option maxHeartbeats 1000000
set_option maxRecDepth 100000
attribute [local irreducible] EvL Ev EvE Quiet Eff Pure RDk RDb RDo
theorem get_map {α β : Type} {f : α → β} {L : List α} {k : Nat} (hk : k < L.length) : (L.map f)[k]? = some (f L[k]) := by rw [List.getElem?_map, List.getElem?_eq_getElem hk]; rfl
end Go.Proofs.YtpbhcdgdabfhfaaGreat
