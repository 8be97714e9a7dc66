/- Walks of functions of the program, printed by a program of the prover. -/
import Derived.Test.YtpbhcdgdabfhfaaGreatF17
namespace Go.Proofs.YtpbhcdgdabfhfaaGreat
open Go.ChangeShapes Go.WideShapes Go.ChangeAt Go.RowKit
set_option linter.unusedVariables false
set_option linter.unusedSimpArgs false
set_option maxHeartbeats 1000000
set_option maxRecDepth 100000
attribute [local irreducible] EvL Ev EvE Quiet Eff Pure RDk RDb RDo
theorem sumN_lenS : ∀ W : List (Int × List Int), sumN lenS W = W.length + sumN (fun x => x.2.length) W
  | [] => rfl
  | x :: W => by
    have := sumN_lenS W
    simp only [sumN, List.map_cons, List.sum_cons, List.length_cons, lenS] at *
    omega
theorem smD_of {d : Disk} (h : diskN d ≤ 1048576) : smD d := by
  have := sumN_lenS d.wait
  unfold diskN rowsN writesN at h
  exact ⟨by omega, by omega, by unfold mkN; omega⟩
theorem smT_of {t : Two} (h : twoN t ≤ 1048576) : smT t := ⟨smD_of (by unfold twoN at h; omega), smD_of (by unfold twoN at h; omega)⟩
theorem rowHead_len (l : List Int) : ((rowHeadF l).getD noHead).seen.length ≤ 4 := by
  unfold rowHeadF
  split
  · exact seenUp_len l 4
  · simp [noHead]
theorem headFold_len (k : Int) : ∀ (L : List (List Int)) (a : Head × Bool), a.1.seen.length ≤ 4 → (L.foldl (headStep k) a).1.seen.length ≤ 4
  | [], a, h => h
  | r :: L, a, h => headFold_len k L _ (by
    unfold headStep
    split
    · exact rowHead_len r
    · exact h)
theorem headIn_len (t : Two) : (headIn t).1.seen.length ≤ 4 := by
  unfold headIn
  split
  · exact headFold_len _ _ _ (headFold_len _ _ _ (by simp [headUp, noHead]))
  · simp [noHead]

end Go.Proofs.YtpbhcdgdabfhfaaGreat
