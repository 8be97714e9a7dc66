/- Walks of functions of the program, printed by a program of the prover. -/
import Derived.Test.YtinmcdcmidlgpaaGreatDoorAkFP
import Derived.Test.YtinmcdcmidlgpaaGreatDoorAkF85
namespace Go.Proofs.YtinmcdcmidlgpaaGreatDoor
open Go.ChangeShapes Go.WideShapes Go.ChangeAt Go.RowKit
set_option linter.unusedVariables false
set_option linter.unusedSimpArgs false
set_option maxHeartbeats 1000000
set_option maxRecDepth 100000
attribute [local irreducible] EvL Ev EvE Quiet Eff Pure RDk RDb RDo
open Go.Deep
section
variable {H : Type} {enc : TypeId × Value → H} {w : World} {base : Nat} {spare : Nat → Bool} {held : Bool}
theorem o_ask {n : Nat} {cs : List Value} {y : DataW H × List MemPlace} (h : DataW.trod enc Tryz.prog w base spare held n 40 cs = some y) : ∃ t : Ask, L2 (RdX fun b => w.heap[b]?) (askC t) cs := by
 obtain ⟨v0, r0, rfl, q0, p0⟩ := (flat_open 5 40 cs y [.int, .int, .int, .int, .int, .int, .int] n kr h).cons
 obtain ⟨v1, r1, rfl, q1, p1⟩ := p0.cons
 obtain ⟨v2, r2, rfl, q2, p2⟩ := p1.cons
 obtain ⟨v3, r3, rfl, q3, p3⟩ := p2.cons
 obtain ⟨v4, r4, rfl, q4, p4⟩ := p3.cons
 obtain ⟨v5, r5, rfl, q5, p5⟩ := p4.cons
 obtain ⟨v6, r6, rfl, q6, p6⟩ := p5.cons
 obtain rfl := p6.nil
 obtain ⟨x0, hx0⟩ := opn_int (d := 0) q0
 obtain ⟨x1, hx1⟩ := opn_int (d := 0) q1
 obtain ⟨x2, hx2⟩ := opn_int (d := 0) q2
 obtain ⟨x3, hx3⟩ := opn_int (d := 0) q3
 obtain ⟨x4, hx4⟩ := opn_int (d := 0) q4
 obtain ⟨x5, hx5⟩ := opn_int (d := 0) q5
 obtain ⟨x6, hx6⟩ := opn_int (d := 0) q6
 exact ⟨⟨x0, x1, x2, x3, x4, x5, x6⟩, rdx hx0, rdx hx1, rdx hx2, rdx hx3, rdx hx4, rdx hx5, rdx hx6, trivial⟩
end
end Go.Proofs.YtinmcdcmidlgpaaGreatDoor
