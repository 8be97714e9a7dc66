/-
  No cell of these rows narrows 'for every input' (looked for: loops, veiled, ifaces, maps, wideKeys, modest, calm, conditions, laid).
  DERIVED. THE GIVEN ROWS OF THIS SEAT. 8 by the template 'for every input the law returns true; each argument reads behind the call as it read before'; 0 by the template 'total and deterministic' (their statements: YtbnmbgfpbagndaaTotals.lean).
  GIVEN WITH THE SEED: the statements are not yours to turn. If you find one false, say at which input.
  Laid BY PROGRAM, IN A SANDBOX (cutbox-rows.mjs): the forced cells as the released guide's own fill.sh prints them over the translation 21105d6399d7685a… (all of the seat's roots in one cut). By AI agents, Wed Nov 11 2026. No macro, syntax, notation, axiom, sorry.
-/
import Derived.Test.YtbnmbgfpbagndaaChecked
import GoSem.Claim
import GoSem.ClaimJoined
import GoSem.ClaimMapViews
import Derived.JoinedTies
import Derived.KernelRfl
namespace Go.Proofs.Ytbnmbgfpbagndaa
/- THE CELL 'sum', in the pinned program and in every row, IS THE sha256 OF THE DUMP (.gsa) THAT YtbnmbgfpbagndaaProg.lean LOADS. Nothing in Lean hashes anything: it is a label: what it is worth is what the hold of that sum in a sandbox is worth. -/
noncomputable def Try.pinned : Pinned := { name := "ytbnmbgfpbagndaa", sum := "21105d6399d7685a2189441a84a50518592d9d3e2331b4e4b74f925ee308436c", checked := Try.checked }
namespace Rows
def none {H : Type} : Left H := { results := [], args := [] }

/-- 'laws.FnExactReadOk': WHATEVER THE INPUT: true; the input reads as it did. -/
def fnExactReadOkSpec : ChangeSpec := { name := "fnExactReadOk", fn := fun _ => fun
  | [d] => { results := [.lit (.bool true)], args := [d] }
  | _ => none }
def fnExactReadOkRow : OpenClaim := { program := "ytbnmbgfpbagndaa", sum := "21105d6399d7685a2189441a84a50518592d9d3e2331b4e4b74f925ee308436c", func := "loop.example/g00851/laws.FnExactReadOk", spec := "fnExactReadOk", apart := false }
def FnExactReadOkSaid : Prop := fnExactReadOkRow.holds Try.pinned (OpenSpec.ofChange fnExactReadOkSpec)

/-- ITS FALSE NEIGHBOUR: 'it returns false'. Refute it at one input. -/
def fnExactReadOkWrong : ChangeSpec := { name := "fnExactReadOk", fn := fun _ => fun
  | [d] => { results := [.lit (.bool false)], args := [d] }
  | _ => none }
def FnExactReadOkWrongFalsely : Prop := fnExactReadOkRow.holds Try.pinned (OpenSpec.ofChange fnExactReadOkWrong)

/-- 'laws.FnExactValueOk': WHATEVER THE INPUT: true; the input reads as it did. -/
def fnExactValueOkSpec : ChangeSpec := { name := "fnExactValueOk", fn := fun _ => fun
  | [d] => { results := [.lit (.bool true)], args := [d] }
  | _ => none }
def fnExactValueOkRow : OpenClaim := { program := "ytbnmbgfpbagndaa", sum := "21105d6399d7685a2189441a84a50518592d9d3e2331b4e4b74f925ee308436c", func := "loop.example/g00851/laws.FnExactValueOk", spec := "fnExactValueOk", apart := false }
def FnExactValueOkSaid : Prop := fnExactValueOkRow.holds Try.pinned (OpenSpec.ofChange fnExactValueOkSpec)

/-- ITS FALSE NEIGHBOUR: 'it returns false'. Refute it at one input. -/
def fnExactValueOkWrong : ChangeSpec := { name := "fnExactValueOk", fn := fun _ => fun
  | [d] => { results := [.lit (.bool false)], args := [d] }
  | _ => none }
def FnExactValueOkWrongFalsely : Prop := fnExactValueOkRow.holds Try.pinned (OpenSpec.ofChange fnExactValueOkWrong)

/-- 'laws.FnExactAckOk': WHATEVER THE INPUT: true; the input reads as it did. -/
def fnExactAckOkSpec : ChangeSpec := { name := "fnExactAckOk", fn := fun _ => fun
  | [d] => { results := [.lit (.bool true)], args := [d] }
  | _ => none }
def fnExactAckOkRow : OpenClaim := { program := "ytbnmbgfpbagndaa", sum := "21105d6399d7685a2189441a84a50518592d9d3e2331b4e4b74f925ee308436c", func := "loop.example/g00851/laws.FnExactAckOk", spec := "fnExactAckOk", apart := false }
def FnExactAckOkSaid : Prop := fnExactAckOkRow.holds Try.pinned (OpenSpec.ofChange fnExactAckOkSpec)

/-- ITS FALSE NEIGHBOUR: 'it returns false'. Refute it at one input. -/
def fnExactAckOkWrong : ChangeSpec := { name := "fnExactAckOk", fn := fun _ => fun
  | [d] => { results := [.lit (.bool false)], args := [d] }
  | _ => none }
def FnExactAckOkWrongFalsely : Prop := fnExactAckOkRow.holds Try.pinned (OpenSpec.ofChange fnExactAckOkWrong)

/-- 'laws.FnExactKindOf': WHATEVER THE INPUT: true; the input reads as it did. -/
def fnExactKindOfSpec : ChangeSpec := { name := "fnExactKindOf", fn := fun _ => fun
  | [d] => { results := [.lit (.bool true)], args := [d] }
  | _ => none }
def fnExactKindOfRow : OpenClaim := { program := "ytbnmbgfpbagndaa", sum := "21105d6399d7685a2189441a84a50518592d9d3e2331b4e4b74f925ee308436c", func := "loop.example/g00851/laws.FnExactKindOf", spec := "fnExactKindOf", apart := false }
def FnExactKindOfSaid : Prop := fnExactKindOfRow.holds Try.pinned (OpenSpec.ofChange fnExactKindOfSpec)

/-- ITS FALSE NEIGHBOUR: 'it returns false'. Refute it at one input. -/
def fnExactKindOfWrong : ChangeSpec := { name := "fnExactKindOf", fn := fun _ => fun
  | [d] => { results := [.lit (.bool false)], args := [d] }
  | _ => none }
def FnExactKindOfWrongFalsely : Prop := fnExactKindOfRow.holds Try.pinned (OpenSpec.ofChange fnExactKindOfWrong)

/-- 'laws.FnExactAskOk': WHATEVER THE INPUT: true; the input reads as it did. -/
def fnExactAskOkSpec : ChangeSpec := { name := "fnExactAskOk", fn := fun _ => fun
  | [d] => { results := [.lit (.bool true)], args := [d] }
  | _ => none }
def fnExactAskOkRow : OpenClaim := { program := "ytbnmbgfpbagndaa", sum := "21105d6399d7685a2189441a84a50518592d9d3e2331b4e4b74f925ee308436c", func := "loop.example/g00851/laws.FnExactAskOk", spec := "fnExactAskOk", apart := false }
def FnExactAskOkSaid : Prop := fnExactAskOkRow.holds Try.pinned (OpenSpec.ofChange fnExactAskOkSpec)

/-- ITS FALSE NEIGHBOUR: 'it returns false'. Refute it at one input. -/
def fnExactAskOkWrong : ChangeSpec := { name := "fnExactAskOk", fn := fun _ => fun
  | [d] => { results := [.lit (.bool false)], args := [d] }
  | _ => none }
def FnExactAskOkWrongFalsely : Prop := fnExactAskOkRow.holds Try.pinned (OpenSpec.ofChange fnExactAskOkWrong)

/-- 'laws.FnExactWantOk': WHATEVER THE INPUT: true; the input reads as it did. -/
def fnExactWantOkSpec : ChangeSpec := { name := "fnExactWantOk", fn := fun _ => fun
  | [d] => { results := [.lit (.bool true)], args := [d] }
  | _ => none }
def fnExactWantOkRow : OpenClaim := { program := "ytbnmbgfpbagndaa", sum := "21105d6399d7685a2189441a84a50518592d9d3e2331b4e4b74f925ee308436c", func := "loop.example/g00851/laws.FnExactWantOk", spec := "fnExactWantOk", apart := false }
def FnExactWantOkSaid : Prop := fnExactWantOkRow.holds Try.pinned (OpenSpec.ofChange fnExactWantOkSpec)

/-- ITS FALSE NEIGHBOUR: 'it returns false'. Refute it at one input. -/
def fnExactWantOkWrong : ChangeSpec := { name := "fnExactWantOk", fn := fun _ => fun
  | [d] => { results := [.lit (.bool false)], args := [d] }
  | _ => none }
def FnExactWantOkWrongFalsely : Prop := fnExactWantOkRow.holds Try.pinned (OpenSpec.ofChange fnExactWantOkWrong)

/-- 'laws.FnExactAckOf': WHATEVER THE INPUT: true; the input reads as it did. -/
def fnExactAckOfSpec : ChangeSpec := { name := "fnExactAckOf", fn := fun _ => fun
  | [d] => { results := [.lit (.bool true)], args := [d] }
  | _ => none }
def fnExactAckOfRow : OpenClaim := { program := "ytbnmbgfpbagndaa", sum := "21105d6399d7685a2189441a84a50518592d9d3e2331b4e4b74f925ee308436c", func := "loop.example/g00851/laws.FnExactAckOf", spec := "fnExactAckOf", apart := false }
def FnExactAckOfSaid : Prop := fnExactAckOfRow.holds Try.pinned (OpenSpec.ofChange fnExactAckOfSpec)

/-- ITS FALSE NEIGHBOUR: 'it returns false'. Refute it at one input. -/
def fnExactAckOfWrong : ChangeSpec := { name := "fnExactAckOf", fn := fun _ => fun
  | [d] => { results := [.lit (.bool false)], args := [d] }
  | _ => none }
def FnExactAckOfWrongFalsely : Prop := fnExactAckOfRow.holds Try.pinned (OpenSpec.ofChange fnExactAckOfWrong)

/-- 'laws.FnExactJobsOk2': WHATEVER THE INPUT: true; the input reads as it did. -/
def fnExactJobsOk2Spec : ChangeSpec := { name := "fnExactJobsOk2", fn := fun _ => fun
  | [d] => { results := [.lit (.bool true)], args := [d] }
  | _ => none }
def fnExactJobsOk2Row : OpenClaim := { program := "ytbnmbgfpbagndaa", sum := "21105d6399d7685a2189441a84a50518592d9d3e2331b4e4b74f925ee308436c", func := "loop.example/g00851/laws.FnExactJobsOk2", spec := "fnExactJobsOk2", apart := false }
def FnExactJobsOk2Said : Prop := fnExactJobsOk2Row.holds Try.pinned (OpenSpec.ofChange fnExactJobsOk2Spec)

/-- ITS FALSE NEIGHBOUR: 'it returns false'. Refute it at one input. -/
def fnExactJobsOk2Wrong : ChangeSpec := { name := "fnExactJobsOk2", fn := fun _ => fun
  | [d] => { results := [.lit (.bool false)], args := [d] }
  | _ => none }
def FnExactJobsOk2WrongFalsely : Prop := fnExactJobsOk2Row.holds Try.pinned (OpenSpec.ofChange fnExactJobsOk2Wrong)

/- THE SECOND FORM. 'bulk': how many values and letters a reading holds, each counted each time it is reached (what is shared counts as often as it is met; a slice's spare places count too). A statement '..UptoSaid' is the law's where the arguments, and the package variables that the reading takes, are together of bulk at most 1048576: NARROWER than '..Said'. Prove '..Said' where nothing that the law and all that it calls make is longer than what came in: it says more and counts as full. Else prove '..UptoSaid'. A law counts once. -/
mutual
def uptoBulk {H : Type} : DataW H → Nat
  | .lit (.string bytes) => bytes.length + 1
  | .lit _ => 1
  | .nil => 1
  | .ptr d => uptoBulk d + 1
  | .slice elems spare => uptoBulkAll elems + uptoBulkAll spare + 1
  | .agg parts => uptoBulkAll parts + 1
  | .iface _ d => uptoBulk d + 1
  | .map entries => uptoBulkEntries entries + 1
  | .held _ => 1
def uptoBulkAll {H : Type} : List (DataW H) → Nat
  | [] => 0
  | d :: r => uptoBulk d + uptoBulkAll r
def uptoBulkEntries {H : Type} : List (Lit × DataW H) → Nat
  | [] => 0
  | x :: r => uptoBulkEntry x + uptoBulkEntries r
def uptoBulkEntry {H : Type} : Lit × DataW H → Nat
  | (.string bytes, d) => bytes.length + uptoBulk d + 1
  | (_, d) => uptoBulk d + 1
 end
def uptoSmall : (H : Type) → List (DataW H) → Bool := fun _ ds => decide (uptoBulkAll ds ≤ 1048576)
def OpenSpec.upto (s : _root_.Go.ChangeSpec) : _root_.Go.OpenSpec := { _root_.Go.OpenSpec.ofChange s with cond := some uptoSmall }

/-- 'laws.FnExactReadOk', WHERE WHAT IT READS IS OF BULK AT MOST 1048576: true; the input reads as it did. -/
def fnExactReadOkUptoRow : OpenClaim := { program := "ytbnmbgfpbagndaa", sum := "21105d6399d7685a2189441a84a50518592d9d3e2331b4e4b74f925ee308436c", func := "loop.example/g00851/laws.FnExactReadOk", spec := "fnExactReadOk", apart := false, narrowed := true }
def FnExactReadOkUptoSaid : Prop := fnExactReadOkUptoRow.holds Try.pinned (OpenSpec.upto fnExactReadOkSpec)

/-- 'laws.FnExactValueOk', WHERE WHAT IT READS IS OF BULK AT MOST 1048576: true; the input reads as it did. -/
def fnExactValueOkUptoRow : OpenClaim := { program := "ytbnmbgfpbagndaa", sum := "21105d6399d7685a2189441a84a50518592d9d3e2331b4e4b74f925ee308436c", func := "loop.example/g00851/laws.FnExactValueOk", spec := "fnExactValueOk", apart := false, narrowed := true }
def FnExactValueOkUptoSaid : Prop := fnExactValueOkUptoRow.holds Try.pinned (OpenSpec.upto fnExactValueOkSpec)

/-- 'laws.FnExactAckOk', WHERE WHAT IT READS IS OF BULK AT MOST 1048576: true; the input reads as it did. -/
def fnExactAckOkUptoRow : OpenClaim := { program := "ytbnmbgfpbagndaa", sum := "21105d6399d7685a2189441a84a50518592d9d3e2331b4e4b74f925ee308436c", func := "loop.example/g00851/laws.FnExactAckOk", spec := "fnExactAckOk", apart := false, narrowed := true }
def FnExactAckOkUptoSaid : Prop := fnExactAckOkUptoRow.holds Try.pinned (OpenSpec.upto fnExactAckOkSpec)

/-- 'laws.FnExactKindOf', WHERE WHAT IT READS IS OF BULK AT MOST 1048576: true; the input reads as it did. -/
def fnExactKindOfUptoRow : OpenClaim := { program := "ytbnmbgfpbagndaa", sum := "21105d6399d7685a2189441a84a50518592d9d3e2331b4e4b74f925ee308436c", func := "loop.example/g00851/laws.FnExactKindOf", spec := "fnExactKindOf", apart := false, narrowed := true }
def FnExactKindOfUptoSaid : Prop := fnExactKindOfUptoRow.holds Try.pinned (OpenSpec.upto fnExactKindOfSpec)

/-- 'laws.FnExactAskOk', WHERE WHAT IT READS IS OF BULK AT MOST 1048576: true; the input reads as it did. -/
def fnExactAskOkUptoRow : OpenClaim := { program := "ytbnmbgfpbagndaa", sum := "21105d6399d7685a2189441a84a50518592d9d3e2331b4e4b74f925ee308436c", func := "loop.example/g00851/laws.FnExactAskOk", spec := "fnExactAskOk", apart := false, narrowed := true }
def FnExactAskOkUptoSaid : Prop := fnExactAskOkUptoRow.holds Try.pinned (OpenSpec.upto fnExactAskOkSpec)

/-- 'laws.FnExactWantOk', WHERE WHAT IT READS IS OF BULK AT MOST 1048576: true; the input reads as it did. -/
def fnExactWantOkUptoRow : OpenClaim := { program := "ytbnmbgfpbagndaa", sum := "21105d6399d7685a2189441a84a50518592d9d3e2331b4e4b74f925ee308436c", func := "loop.example/g00851/laws.FnExactWantOk", spec := "fnExactWantOk", apart := false, narrowed := true }
def FnExactWantOkUptoSaid : Prop := fnExactWantOkUptoRow.holds Try.pinned (OpenSpec.upto fnExactWantOkSpec)

/-- 'laws.FnExactAckOf', WHERE WHAT IT READS IS OF BULK AT MOST 1048576: true; the input reads as it did. -/
def fnExactAckOfUptoRow : OpenClaim := { program := "ytbnmbgfpbagndaa", sum := "21105d6399d7685a2189441a84a50518592d9d3e2331b4e4b74f925ee308436c", func := "loop.example/g00851/laws.FnExactAckOf", spec := "fnExactAckOf", apart := false, narrowed := true }
def FnExactAckOfUptoSaid : Prop := fnExactAckOfUptoRow.holds Try.pinned (OpenSpec.upto fnExactAckOfSpec)

/-- 'laws.FnExactJobsOk2', WHERE WHAT IT READS IS OF BULK AT MOST 1048576: true; the input reads as it did. -/
def fnExactJobsOk2UptoRow : OpenClaim := { program := "ytbnmbgfpbagndaa", sum := "21105d6399d7685a2189441a84a50518592d9d3e2331b4e4b74f925ee308436c", func := "loop.example/g00851/laws.FnExactJobsOk2", spec := "fnExactJobsOk2", apart := false, narrowed := true }
def FnExactJobsOk2UptoSaid : Prop := fnExactJobsOk2UptoRow.holds Try.pinned (OpenSpec.upto fnExactJobsOk2Spec)

end Rows
end Go.Proofs.Ytbnmbgfpbagndaa
