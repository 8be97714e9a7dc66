/- Walks of functions of the program, printed by a program of the prover. -/
import Derived.Test.YtpbhcdgdabfhfaaGreatLoF14
import Derived.Test.YtpbhcdgdabfhfaaGreatLoVK
namespace Go.Proofs.YtpbhcdgdabfhfaaGreat
open Go.ChangeShapes Go.WideShapes Go.ChangeAt Go.RowKit
set_option linter.unusedVariables false
set_option linter.unusedSimpArgs false
set_option maxHeartbeats 1000000
set_option maxRecDepth 100000
attribute [local irreducible] EvL Ev EvE Quiet Eff Pure RDk RDb RDo
def g1 (q : Int) (i : Nat) : List C := [iC (q + i)]
def g3 (q : Int) (i : Nat) : List C := [iC (q + (3 * i : Nat)), iC (q + (3 * i : Nat) + 1), iC (q + (3 * i : Nat) + 1 + 1)]
def g4 (q : Int) (i : Nat) : List C := [iC (q + (4 * i : Nat)), iC (q + (4 * i : Nat) + 1), iC (q + (4 * i : Nat) + 1 + 1), iC (q + (4 * i : Nat) + 1 + 1 + 1)]
def g9 (q : Int) (i : Nat) : List C := [iC (q + (9 * i : Nat)), iC (q + (9 * i : Nat) + 1), iC (q + (9 * i : Nat) + 1 + 1), iC (q + (9 * i : Nat) + 1 + 1 + 1), iC (q + (9 * i : Nat) + 1 + 1 + 1 + 1), iC (q + (9 * i : Nat) + 1 + 1 + 1 + 1 + 1), iC (q + (9 * i : Nat) + 1 + 1 + 1 + 1 + 1 + 1), iC (q + (9 * i : Nat) + 1 + 1 + 1 + 1 + 1 + 1 + 1), iC (q + (9 * i : Nat) + 1 + 1 + 1 + 1 + 1 + 1 + 1 + 1)]
@[reducible] def mk1 (q : Int) (n : Nat) : List (List C) := (List.range n).map (g1 q)
@[reducible] def mk3 (q : Int) (n : Nat) : List (List C) := (List.range n).map (g3 q)
@[reducible] def mk4 (q : Int) (n : Nat) : List (List C) := (List.range n).map (g4 q)
@[reducible] def mk9 (q : Int) (n : Nat) : List (List C) := (List.range n).map (g9 q)
def lenS (x : Int × List Int) : Nat := 1 + x.2.length
def gR (q : Int) (K : List (List Int)) (i : Nat) : List C := [.s 1 (mk1 (q + sumN List.length (K.take i)) (K.getD i []).length)]
def gW (q : Int) (W : List (Int × List Int)) (i : Nat) : List C := [iC (q + sumN lenS (W.take i)), .s 1 (mk1 (q + sumN lenS (W.take i) + 1) (W.getD i (0, [])).2.length)]
@[reducible] def mkRows (q : Int) (K : List (List Int)) : List (List C) := (List.range K.length).map (gR q K)
@[reducible] def mkWrites (q : Int) (W : List (Int × List Int)) : List (List C) := (List.range W.length).map (gW q W)
end Go.Proofs.YtpbhcdgdabfhfaaGreat
