/- Walks of functions of the program, printed by a program of the prover. -/
import Derived.Test.YtphaggopgdbojaaGreatReF10
import Derived.Test.YtphaggopgdbojaaGreatReVL
namespace Go.Proofs.YtphaggopgdbojaaGreat
open Go.ChangeShapes Go.WideShapes Go.ChangeAt Go.RowKit
set_option linter.unusedVariables false
set_option linter.unusedSimpArgs false
set_option maxHeartbeats 1000000
set_option maxRecDepth 100000
attribute [local irreducible] EvL Ev EvE Quiet Eff Pure RDk RDb RDo
open Go.Deep
section
variable {H : Type} {enc : TypeId × Value → H} {w : World} {base : Nat} {spare : Nat → Bool} {held : Bool}
theorem o_int : Opn enc Tryz.prog w base spare held 0 (fun x : Int => [iC x]) 2 := fun n cs y h => by
 obtain ⟨v0, r0, rfl, q0, p0⟩ := (flat_open 5 2 cs y [.int] n (by kernel_rfl) h).cons
 obtain rfl := p0.nil
 obtain ⟨x0, hx0⟩ := opn_int (d := 0) q0
 exact ⟨x0, hx0, trivial⟩
theorem o_ints {v : Value} (h : ClOk enc Tryz.prog w base spare held (.slice 2) v) : ∃ l, RdC (fun b => w.heap[b]?) 1 (ints l) v := opn_list (f := fun x : Int => [iC x]) (n := 1) (by kernel_rfl) (by decide) (fun _ => rfl) o_int h
theorem o_row : Opn enc Tryz.prog w base spare held 1 (fun r : List Int => [ints r]) 72 := fun n cs y h => by
 obtain ⟨v0, r0, rfl, q0, p0⟩ := (flat_open 5 72 cs y [.slice 2] n (by kernel_rfl) h).cons
 obtain rfl := p0.nil
 obtain ⟨x0, hx0⟩ := o_ints q0
 exact ⟨x0, hx0, trivial⟩
theorem o_rows {v : Value} (h : ClOk enc Tryz.prog w base spare held (.slice 72) v) : ∃ l, RdC (fun b => w.heap[b]?) 2 (rows l) v := opn_list (f := fun r : List Int => [ints r]) (n := 1) (by kernel_rfl) (by decide) (fun _ => rfl) o_row h
theorem o_write : Opn enc Tryz.prog w base spare held 1 (fun x : Int × List Int => [iC x.1, ints x.2]) 197 := fun n cs y h => by
 obtain ⟨v0, r0, rfl, q0, p0⟩ := (flat_open 5 197 cs y [.int, .slice 2] n (by kernel_rfl) h).cons
 obtain ⟨v1, r1, rfl, q1, p1⟩ := p0.cons
 obtain rfl := p1.nil
 obtain ⟨x0, hx0⟩ := opn_int (d := 1) q0
 obtain ⟨x1, hx1⟩ := o_ints q1
 exact ⟨(x0, x1), hx0, hx1, trivial⟩
theorem o_writes {v : Value} (h : ClOk enc Tryz.prog w base spare held (.slice 197) v) : ∃ l, RdC (fun b => w.heap[b]?) 2 (writes l) v := opn_list (f := fun x : Int × List Int => [iC x.1, ints x.2]) (n := 2) (by kernel_rfl) (by decide) (fun _ => rfl) o_write h
theorem o_two {n : Nat} {cs : List Value} {y : DataW H × List MemPlace} (h : DataW.trod enc Tryz.prog w base spare held n 27 cs = some y) : ∃ t : Two, L2 (RdX fun b => w.heap[b]?) (twoC t) cs := by
 obtain ⟨v0, r0, rfl, q0, p0⟩ := (flat_open 5 27 cs y [.slice 72, .slice 197, .slice 72, .slice 197] n (by kernel_rfl) h).cons
 obtain ⟨v1, r1, rfl, q1, p1⟩ := p0.cons
 obtain ⟨v2, r2, rfl, q2, p2⟩ := p1.cons
 obtain ⟨v3, r3, rfl, q3, p3⟩ := p2.cons
 obtain rfl := p3.nil
 obtain ⟨x0, hx0⟩ := o_rows q0
 obtain ⟨x1, hx1⟩ := o_writes q1
 obtain ⟨x2, hx2⟩ := o_rows q2
 obtain ⟨x3, hx3⟩ := o_writes q3
 exact ⟨⟨⟨x0, x1⟩, ⟨x2, x3⟩⟩, rdx hx0, rdx hx1, rdx hx2, rdx hx3, trivial⟩
end

end Go.Proofs.YtphaggopgdbojaaGreat
