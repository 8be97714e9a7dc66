/- Walks of functions of the program, printed by a program of the prover. -/
import Derived.Test.YtinmcdcmidlgpaaGreatDoorAkF12
import Derived.Test.YtinmcdcmidlgpaaGreatDoorAkVL
namespace Go.Proofs.YtinmcdcmidlgpaaGreatDoor
open Go.ChangeShapes Go.WideShapes Go.ChangeAt Go.RowKit
set_option linter.unusedVariables false
set_option linter.unusedSimpArgs false
set_option maxHeartbeats 1000000
set_option maxRecDepth 100000
attribute [local irreducible] EvL Ev EvE Quiet Eff Pure RDk RDb RDo
open Go.Deep
section
variable {H : Type} {enc : TypeId × Value → H} {w : World} {base : Nat} {spare : Nat → Bool} {held : Bool}
theorem o_int : Opn enc Tryz.prog w base spare held 0 (fun x : Int => [iC x]) 2 := fun n cs y h => by
 obtain ⟨v0, r0, rfl, q0, p0⟩ := (flat_open 5 2 cs y [.int] n kr h).cons
 obtain rfl := p0.nil
 obtain ⟨x0, hx0⟩ := opn_int (d := 0) q0
 exact ⟨x0, hx0, trivial⟩
theorem o_ints {v : Value} (h : ClOk enc Tryz.prog w base spare held (.slice 2) v) : ∃ l, RdC (fun b => w.heap[b]?) 1 (ints l) v := opn_list (f := fun x : Int => [iC x]) (n := 1) kr (by decide) (fun _ => rfl) o_int h
theorem o_row : Opn enc Tryz.prog w base spare held 1 (fun r : List Int => [ints r]) 74 := fun n cs y h => by
 obtain ⟨v0, r0, rfl, q0, p0⟩ := (flat_open 5 74 cs y [.slice 2] n kr h).cons
 obtain rfl := p0.nil
 obtain ⟨x0, hx0⟩ := o_ints q0
 exact ⟨x0, hx0, trivial⟩
theorem o_rows {v : Value} (h : ClOk enc Tryz.prog w base spare held (.slice 74) v) : ∃ l, RdC (fun b => w.heap[b]?) 2 (rows l) v := opn_list (f := fun r : List Int => [ints r]) (n := 1) kr (by decide) (fun _ => rfl) o_row h
theorem o_write : Opn enc Tryz.prog w base spare held 1 (fun x : Int × List Int => [iC x.1, ints x.2]) 269 := fun n cs y h => by
 obtain ⟨v0, r0, rfl, q0, p0⟩ := (flat_open 5 269 cs y [.int, .slice 2] n kr h).cons
 obtain ⟨v1, r1, rfl, q1, p1⟩ := p0.cons
 obtain rfl := p1.nil
 obtain ⟨x0, hx0⟩ := opn_int (d := 1) q0
 obtain ⟨x1, hx1⟩ := o_ints q1
 exact ⟨(x0, x1), hx0, hx1, trivial⟩
theorem o_writes {v : Value} (h : ClOk enc Tryz.prog w base spare held (.slice 269) v) : ∃ l, RdC (fun b => w.heap[b]?) 2 (writes l) v := opn_list (f := fun x : Int × List Int => [iC x.1, ints x.2]) (n := 2) kr (by decide) (fun _ => rfl) o_write h
theorem o_mark : Opn enc Tryz.prog w base spare held 0 (markC) 177 := fun n cs y h => by
 obtain ⟨v0, r0, rfl, q0, p0⟩ := (flat_open 5 177 cs y [.int, .int, .int] n kr h).cons
 obtain ⟨v1, r1, rfl, q1, p1⟩ := p0.cons
 obtain ⟨v2, r2, rfl, q2, p2⟩ := p1.cons
 obtain rfl := p2.nil
 obtain ⟨x0, hx0⟩ := opn_int (d := 0) q0
 obtain ⟨x1, hx1⟩ := opn_int (d := 0) q1
 obtain ⟨x2, hx2⟩ := opn_int (d := 0) q2
 exact ⟨⟨x0, x1, x2⟩, hx0, hx1, hx2, trivial⟩
theorem o_marks {v : Value} (h : ClOk enc Tryz.prog w base spare held (.slice 177) v) : ∃ l, RdC (fun b => w.heap[b]?) 1 (marks l) v := opn_list (f := markC) (n := 3) kr (by decide) (fun _ => rfl) o_mark h
theorem o_ack : Opn enc Tryz.prog w base spare held 0 (ackC) 179 := fun n cs y h => by
 obtain ⟨v0, r0, rfl, q0, p0⟩ := (flat_open 5 179 cs y [.int, .int, .int, .int] n kr h).cons
 obtain ⟨v1, r1, rfl, q1, p1⟩ := p0.cons
 obtain ⟨v2, r2, rfl, q2, p2⟩ := p1.cons
 obtain ⟨v3, r3, rfl, q3, p3⟩ := p2.cons
 obtain rfl := p3.nil
 obtain ⟨x0, hx0⟩ := opn_int (d := 0) q0
 obtain ⟨x1, hx1⟩ := opn_int (d := 0) q1
 obtain ⟨x2, hx2⟩ := opn_int (d := 0) q2
 obtain ⟨x3, hx3⟩ := opn_int (d := 0) q3
 exact ⟨⟨x0, x1, x2, x3⟩, hx0, hx1, hx2, hx3, trivial⟩
theorem o_acks {v : Value} (h : ClOk enc Tryz.prog w base spare held (.slice 179) v) : ∃ l, RdC (fun b => w.heap[b]?) 1 (acks l) v := opn_list (f := ackC) (n := 4) kr (by decide) (fun _ => rfl) o_ack h
theorem o_entry : Opn enc Tryz.prog w base spare held 0 (entryC) 237 := fun n cs y h => by
 obtain ⟨v0, r0, rfl, q0, p0⟩ := (flat_open 5 237 cs y [.int, .int, .int, .int, .int, .int, .int, .int, .int] n kr h).cons
 obtain ⟨v1, r1, rfl, q1, p1⟩ := p0.cons
 obtain ⟨v2, r2, rfl, q2, p2⟩ := p1.cons
 obtain ⟨v3, r3, rfl, q3, p3⟩ := p2.cons
 obtain ⟨v4, r4, rfl, q4, p4⟩ := p3.cons
 obtain ⟨v5, r5, rfl, q5, p5⟩ := p4.cons
 obtain ⟨v6, r6, rfl, q6, p6⟩ := p5.cons
 obtain ⟨v7, r7, rfl, q7, p7⟩ := p6.cons
 obtain ⟨v8, r8, rfl, q8, p8⟩ := p7.cons
 obtain rfl := p8.nil
 obtain ⟨x0, hx0⟩ := opn_int (d := 0) q0
 obtain ⟨x1, hx1⟩ := opn_int (d := 0) q1
 obtain ⟨x2, hx2⟩ := opn_int (d := 0) q2
 obtain ⟨x3, hx3⟩ := opn_int (d := 0) q3
 obtain ⟨x4, hx4⟩ := opn_int (d := 0) q4
 obtain ⟨x5, hx5⟩ := opn_int (d := 0) q5
 obtain ⟨x6, hx6⟩ := opn_int (d := 0) q6
 obtain ⟨x7, hx7⟩ := opn_int (d := 0) q7
 obtain ⟨x8, hx8⟩ := opn_int (d := 0) q8
 exact ⟨⟨x0, x1, x2, x3, x4, x5, x6, x7, x8⟩, hx0, hx1, hx2, hx3, hx4, hx5, hx6, hx7, hx8, trivial⟩
theorem o_entries {v : Value} (h : ClOk enc Tryz.prog w base spare held (.slice 237) v) : ∃ l, RdC (fun b => w.heap[b]?) 1 (entries l) v := opn_list (f := entryC) (n := 9) kr (by decide) (fun _ => rfl) o_entry h
end
end Go.Proofs.YtinmcdcmidlgpaaGreatDoor
