/- An array in a box whose cells are slices: taken as a slice of one's own, so that its cells may be named by a number that is only known as a letter. No program in it. -/
import Derived.Test.YtphaggopgdbojaaGreatBiVP
import Derived.Test.YtphaggopgdbojaaGreatBiVE
import Derived.Test.YtphaggopgdbojaaGreatBiVZ
namespace Go.Proofs.YtphaggopgdbojaaGreat
open Go.ChangeShapes Go.WideShapes Go.ChangeAt Go.RowKit
set_option linter.unusedVariables false
section
variable {P : Program} {X : Cx} {S : St} {ρ : Rho} {a : Act} {w : World} {TT : List (Nat × TI)}
variable {Q : Act → World → Prop} {ops : Array Oper} {fuel : Nat} {listed : Array Bool}
theorem rdh_3 (i j k : Nat) (hr : Region.ready .any ops listed = [i, j, k]) (h1 : RDho P X ops fuel listed i S Q) (h2 : RDho P X ops fuel listed j S Q) (h3 : RDho P X ops fuel listed k S Q) : RDh P X ops (fuel + 1) listed S Q :=
  fun ρ a w hs => ⟨fun h0 => absurd h0 (by rw [hr]; simp), fun q hq => by
    rw [hr] at hq
    rcases List.mem_cons.1 hq with rfl | hq
    · exact h1 ρ a w hs
    · rcases List.mem_cons.1 hq with rfl | hq
      · exact h2 ρ a w hs
      · obtain rfl := List.mem_singleton.1 hq
        exact h3 ρ a w hs⟩
end
end Go.Proofs.YtphaggopgdbojaaGreat
