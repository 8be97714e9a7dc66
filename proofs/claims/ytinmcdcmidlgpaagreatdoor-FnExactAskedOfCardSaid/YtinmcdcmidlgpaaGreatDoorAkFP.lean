/- Walks of functions of the program, printed by a program of the prover. -/
import Derived.Test.YtinmcdcmidlgpaaGreatDoorAkF22
import Derived.Test.YtinmcdcmidlgpaaGreatDoorAkFO
namespace Go.Proofs.YtinmcdcmidlgpaaGreatDoor
open Go.ChangeShapes Go.WideShapes Go.ChangeAt Go.RowKit
set_option linter.unusedVariables false
set_option linter.unusedSimpArgs false
set_option maxHeartbeats 1000000
set_option maxRecDepth 100000
attribute [local irreducible] EvL Ev EvE Quiet Eff Pure RDk RDb RDo
open Go.Deep
section
variable {H : Type} {enc : TypeId × Value → H} {w : World} {base : Nat} {spare : Nat → Bool} {held : Bool}
theorem o_log {n : Nat} {cs : List Value} {y : DataW H × List MemPlace} (h : DataW.trod enc Tryz.prog w base spare held n 36 cs = some y) : ∃ t : LogN, L2 (RdX fun b => w.heap[b]?) (logC t) cs := by
 obtain ⟨v0, r0, rfl, q0, p0⟩ := (flat_open 5 36 cs y [.slice 74, .slice 269, .slice 74, .slice 269, .int, .int, .int, .slice 177, .int, .int, .int, .slice 177, .bool, .int, .int, .slice 237, .slice 177, .int, .slice 179] n kr h).cons
 obtain ⟨v1, r1, rfl, q1, p1⟩ := p0.cons
 obtain ⟨v2, r2, rfl, q2, p2⟩ := p1.cons
 obtain ⟨v3, r3, rfl, q3, p3⟩ := p2.cons
 obtain ⟨v4, r4, rfl, q4, p4⟩ := p3.cons
 obtain ⟨v5, r5, rfl, q5, p5⟩ := p4.cons
 obtain ⟨v6, r6, rfl, q6, p6⟩ := p5.cons
 obtain ⟨v7, r7, rfl, q7, p7⟩ := p6.cons
 obtain ⟨v8, r8, rfl, q8, p8⟩ := p7.cons
 obtain ⟨v9, r9, rfl, q9, p9⟩ := p8.cons
 obtain ⟨v10, r10, rfl, q10, p10⟩ := p9.cons
 obtain ⟨v11, r11, rfl, q11, p11⟩ := p10.cons
 obtain ⟨v12, r12, rfl, q12, p12⟩ := p11.cons
 obtain ⟨v13, r13, rfl, q13, p13⟩ := p12.cons
 obtain ⟨v14, r14, rfl, q14, p14⟩ := p13.cons
 obtain ⟨v15, r15, rfl, q15, p15⟩ := p14.cons
 obtain ⟨v16, r16, rfl, q16, p16⟩ := p15.cons
 obtain ⟨v17, r17, rfl, q17, p17⟩ := p16.cons
 obtain ⟨v18, r18, rfl, q18, p18⟩ := p17.cons
 obtain rfl := p18.nil
 obtain ⟨x0, hx0⟩ := o_rows q0
 obtain ⟨x1, hx1⟩ := o_writes q1
 obtain ⟨x2, hx2⟩ := o_rows q2
 obtain ⟨x3, hx3⟩ := o_writes q3
 obtain ⟨x4, hx4⟩ := opn_int (d := 0) q4
 obtain ⟨x5, hx5⟩ := opn_int (d := 0) q5
 obtain ⟨x6, hx6⟩ := opn_int (d := 0) q6
 obtain ⟨x7, hx7⟩ := o_marks q7
 obtain ⟨x8, hx8⟩ := opn_int (d := 0) q8
 obtain ⟨x9, hx9⟩ := opn_int (d := 0) q9
 obtain ⟨x10, hx10⟩ := opn_int (d := 0) q10
 obtain ⟨x11, hx11⟩ := o_marks q11
 obtain ⟨x12, hx12⟩ := opn_bool (d := 0) q12
 obtain ⟨x13, hx13⟩ := opn_int (d := 0) q13
 obtain ⟨x14, hx14⟩ := opn_int (d := 0) q14
 obtain ⟨x15, hx15⟩ := o_entries q15
 obtain ⟨x16, hx16⟩ := o_marks q16
 obtain ⟨x17, hx17⟩ := opn_int (d := 0) q17
 obtain ⟨x18, hx18⟩ := o_acks q18
 exact ⟨⟨⟨⟨x0, x1⟩, ⟨x2, x3⟩⟩, ⟨x4, x5, x6, x7⟩, ⟨x8, x9, x10, x11⟩, x12, ⟨x13, x14, x15⟩, x16, x17, x18⟩, rdx hx0, rdx hx1, rdx hx2, rdx hx3, rdx hx4, rdx hx5, rdx hx6, rdx hx7, rdx hx8, rdx hx9, rdx hx10, rdx hx11, rdx hx12, rdx hx13, rdx hx14, rdx hx15, rdx hx16, rdx hx17, rdx hx18, trivial⟩
end
end Go.Proofs.YtinmcdcmidlgpaaGreatDoor
