/-
  No cell of these rows narrows 'for every input' (looked for: loops, veiled, ifaces, maps, wideKeys, modest, calm, conditions, laid).
  DERIVED. THE GIVEN ROWS OF THIS SEAT. 6 by the template 'for every input the law returns true; each argument reads behind the call as it read before'; 0 by the template 'total and deterministic' (their statements: YtphaggopgdbojaaGreatTotals.lean).
  GIVEN WITH THE SEED: the statements are not yours to turn. If you find one false, say at which input.
  Laid BY PROGRAM, IN A SANDBOX (cutbox-rows.mjs): the forced cells as the released guide's own fill.sh prints them over the translation 96d73fae64918f2e… (all of the seat's roots in one cut). By AI agents, Wed Nov 11 2026. No macro, syntax, notation, axiom, sorry.
-/
import Derived.Test.YtphaggopgdbojaaGreatChecked
import GoSem.Claim
import GoSem.ClaimJoined
import GoSem.ClaimMapViews
import Derived.JoinedTies
import Derived.KernelRfl
namespace Go.Proofs.YtphaggopgdbojaaGreat
/- THE CELL 'sum', in the pinned program and in every row, IS THE sha256 OF THE DUMP (.gsa) THAT YtphaggopgdbojaaGreatProg.lean LOADS. Nothing in Lean hashes anything: it is a label: what it is worth is what the hold of that sum in a sandbox is worth. -/
noncomputable def Tryz.pinned : Pinned := { name := "ytphaggopgdbojaagreat", sum := "96d73fae64918f2ee3f9087bc04a6514ccfe08d7a7fb9c6c20d606fc4323090a", checked := Tryz.checked }
namespace Rows
def none {H : Type} : Left H := { results := [], args := [] }

/-- 'laws.FnExactTrimAsked': WHATEVER THE INPUT: true; the input reads as it did. -/
def fnExactTrimAskedSpec : ChangeSpec := { name := "fnExactTrimAsked", fn := fun _ => fun
  | [d1, d2] => { results := [.lit (.bool true)], args := [d1, d2] }
  | _ => none }
def fnExactTrimAskedRow : OpenClaim := { program := "ytphaggopgdbojaagreat", sum := "96d73fae64918f2ee3f9087bc04a6514ccfe08d7a7fb9c6c20d606fc4323090a", func := "loop.example/g00851/laws.FnExactTrimAsked", spec := "fnExactTrimAsked", unfollowed := true, recurses := true, apart := false }
def FnExactTrimAskedSaid : Prop := fnExactTrimAskedRow.holds Tryz.pinned (OpenSpec.ofChange fnExactTrimAskedSpec)

/-- ITS FALSE NEIGHBOUR: 'it returns false'. Refute it at one input. -/
def fnExactTrimAskedWrong : ChangeSpec := { name := "fnExactTrimAsked", fn := fun _ => fun
  | [d1, d2] => { results := [.lit (.bool false)], args := [d1, d2] }
  | _ => none }
def FnExactTrimAskedWrongFalsely : Prop := fnExactTrimAskedRow.holds Tryz.pinned (OpenSpec.ofChange fnExactTrimAskedWrong)

/-- 'laws.FnExactRisenLog': WHATEVER THE INPUT: true; the input reads as it did. -/
def fnExactRisenLogSpec : ChangeSpec := { name := "fnExactRisenLog", fn := fun _ => fun
  | [d] => { results := [.lit (.bool true)], args := [d] }
  | _ => none }
def fnExactRisenLogRow : OpenClaim := { program := "ytphaggopgdbojaagreat", sum := "96d73fae64918f2ee3f9087bc04a6514ccfe08d7a7fb9c6c20d606fc4323090a", func := "loop.example/g00851/laws.FnExactRisenLog", spec := "fnExactRisenLog", unfollowed := true, recurses := true, apart := false }
def FnExactRisenLogSaid : Prop := fnExactRisenLogRow.holds Tryz.pinned (OpenSpec.ofChange fnExactRisenLogSpec)

/-- ITS FALSE NEIGHBOUR: 'it returns false'. Refute it at one input. -/
def fnExactRisenLogWrong : ChangeSpec := { name := "fnExactRisenLog", fn := fun _ => fun
  | [d] => { results := [.lit (.bool false)], args := [d] }
  | _ => none }
def FnExactRisenLogWrongFalsely : Prop := fnExactRisenLogRow.holds Tryz.pinned (OpenSpec.ofChange fnExactRisenLogWrong)

/-- 'laws.FnExactBookIn': WHATEVER THE INPUT: true; the input reads as it did. -/
def fnExactBookInSpec : ChangeSpec := { name := "fnExactBookIn", fn := fun _ => fun
  | [d1, d2] => { results := [.lit (.bool true)], args := [d1, d2] }
  | _ => none }
def fnExactBookInRow : OpenClaim := { program := "ytphaggopgdbojaagreat", sum := "96d73fae64918f2ee3f9087bc04a6514ccfe08d7a7fb9c6c20d606fc4323090a", func := "loop.example/g00851/laws.FnExactBookIn", spec := "fnExactBookIn", unfollowed := true, recurses := true, apart := false }
def FnExactBookInSaid : Prop := fnExactBookInRow.holds Tryz.pinned (OpenSpec.ofChange fnExactBookInSpec)

/-- ITS FALSE NEIGHBOUR: 'it returns false'. Refute it at one input. -/
def fnExactBookInWrong : ChangeSpec := { name := "fnExactBookIn", fn := fun _ => fun
  | [d1, d2] => { results := [.lit (.bool false)], args := [d1, d2] }
  | _ => none }
def FnExactBookInWrongFalsely : Prop := fnExactBookInRow.holds Tryz.pinned (OpenSpec.ofChange fnExactBookInWrong)

/-- 'laws.FnExactFallenLog': WHATEVER THE INPUT: true; the input reads as it did. -/
def fnExactFallenLogSpec : ChangeSpec := { name := "fnExactFallenLog", fn := fun _ => fun
  | [d1, d2] => { results := [.lit (.bool true)], args := [d1, d2] }
  | _ => none }
def fnExactFallenLogRow : OpenClaim := { program := "ytphaggopgdbojaagreat", sum := "96d73fae64918f2ee3f9087bc04a6514ccfe08d7a7fb9c6c20d606fc4323090a", func := "loop.example/g00851/laws.FnExactFallenLog", spec := "fnExactFallenLog", unfollowed := true, recurses := true, apart := false }
def FnExactFallenLogSaid : Prop := fnExactFallenLogRow.holds Tryz.pinned (OpenSpec.ofChange fnExactFallenLogSpec)

/-- ITS FALSE NEIGHBOUR: 'it returns false'. Refute it at one input. -/
def fnExactFallenLogWrong : ChangeSpec := { name := "fnExactFallenLog", fn := fun _ => fun
  | [d1, d2] => { results := [.lit (.bool false)], args := [d1, d2] }
  | _ => none }
def FnExactFallenLogWrongFalsely : Prop := fnExactFallenLogRow.holds Tryz.pinned (OpenSpec.ofChange fnExactFallenLogWrong)

/-- 'laws.FnExactRecovered': WHATEVER THE INPUT: true; the input reads as it did. -/
def fnExactRecoveredSpec : ChangeSpec := { name := "fnExactRecovered", fn := fun _ => fun
  | [d] => { results := [.lit (.bool true)], args := [d] }
  | _ => none }
def fnExactRecoveredRow : OpenClaim := { program := "ytphaggopgdbojaagreat", sum := "96d73fae64918f2ee3f9087bc04a6514ccfe08d7a7fb9c6c20d606fc4323090a", func := "loop.example/g00851/laws.FnExactRecovered", spec := "fnExactRecovered", unfollowed := true, recurses := true, apart := false }
def FnExactRecoveredSaid : Prop := fnExactRecoveredRow.holds Tryz.pinned (OpenSpec.ofChange fnExactRecoveredSpec)

/-- ITS FALSE NEIGHBOUR: 'it returns false'. Refute it at one input. -/
def fnExactRecoveredWrong : ChangeSpec := { name := "fnExactRecovered", fn := fun _ => fun
  | [d] => { results := [.lit (.bool false)], args := [d] }
  | _ => none }
def FnExactRecoveredWrongFalsely : Prop := fnExactRecoveredRow.holds Tryz.pinned (OpenSpec.ofChange fnExactRecoveredWrong)

/-- 'laws.FnExactSyncedLog': WHATEVER THE INPUT: true; the input reads as it did. -/
def fnExactSyncedLogSpec : ChangeSpec := { name := "fnExactSyncedLog", fn := fun _ => fun
  | [d] => { results := [.lit (.bool true)], args := [d] }
  | _ => none }
def fnExactSyncedLogRow : OpenClaim := { program := "ytphaggopgdbojaagreat", sum := "96d73fae64918f2ee3f9087bc04a6514ccfe08d7a7fb9c6c20d606fc4323090a", func := "loop.example/g00851/laws.FnExactSyncedLog", spec := "fnExactSyncedLog", unfollowed := true, recurses := true, apart := false }
def FnExactSyncedLogSaid : Prop := fnExactSyncedLogRow.holds Tryz.pinned (OpenSpec.ofChange fnExactSyncedLogSpec)

/-- ITS FALSE NEIGHBOUR: 'it returns false'. Refute it at one input. -/
def fnExactSyncedLogWrong : ChangeSpec := { name := "fnExactSyncedLog", fn := fun _ => fun
  | [d] => { results := [.lit (.bool false)], args := [d] }
  | _ => none }
def FnExactSyncedLogWrongFalsely : Prop := fnExactSyncedLogRow.holds Tryz.pinned (OpenSpec.ofChange fnExactSyncedLogWrong)

/- THE SECOND FORM. 'bulk': how many values and letters a reading holds, each counted each time it is reached (what is shared counts as often as it is met; a slice's spare places count too). A statement '..UptoSaid' is the law's where the arguments, and the package variables that the reading takes, are together of bulk at most 1048576: NARROWER than '..Said'. Prove '..Said' where nothing that the law and all that it calls make is longer than what came in: it says more and counts as full. Else prove '..UptoSaid'. A law counts once. -/
mutual
def uptoBulk {H : Type} : DataW H → Nat
  | .lit (.string bytes) => bytes.length + 1
  | .lit _ => 1
  | .nil => 1
  | .ptr d => uptoBulk d + 1
  | .slice elems spare => uptoBulkAll elems + uptoBulkAll spare + 1
  | .agg parts => uptoBulkAll parts + 1
  | .iface _ d => uptoBulk d + 1
  | .map entries => uptoBulkEntries entries + 1
  | .held _ => 1
def uptoBulkAll {H : Type} : List (DataW H) → Nat
  | [] => 0
  | d :: r => uptoBulk d + uptoBulkAll r
def uptoBulkEntries {H : Type} : List (Lit × DataW H) → Nat
  | [] => 0
  | x :: r => uptoBulkEntry x + uptoBulkEntries r
def uptoBulkEntry {H : Type} : Lit × DataW H → Nat
  | (.string bytes, d) => bytes.length + uptoBulk d + 1
  | (_, d) => uptoBulk d + 1
 end
def uptoSmall : (H : Type) → List (DataW H) → Bool := fun _ ds => decide (uptoBulkAll ds ≤ 1048576)
def OpenSpec.upto (s : _root_.Go.ChangeSpec) : _root_.Go.OpenSpec := { _root_.Go.OpenSpec.ofChange s with cond := some uptoSmall }

/-- 'laws.FnExactTrimAsked', WHERE WHAT IT READS IS OF BULK AT MOST 1048576: true; the input reads as it did. -/
def fnExactTrimAskedUptoRow : OpenClaim := { program := "ytphaggopgdbojaagreat", sum := "96d73fae64918f2ee3f9087bc04a6514ccfe08d7a7fb9c6c20d606fc4323090a", func := "loop.example/g00851/laws.FnExactTrimAsked", spec := "fnExactTrimAsked", unfollowed := true, recurses := true, apart := false, narrowed := true }
def FnExactTrimAskedUptoSaid : Prop := fnExactTrimAskedUptoRow.holds Tryz.pinned (OpenSpec.upto fnExactTrimAskedSpec)

/-- 'laws.FnExactRisenLog', WHERE WHAT IT READS IS OF BULK AT MOST 1048576: true; the input reads as it did. -/
def fnExactRisenLogUptoRow : OpenClaim := { program := "ytphaggopgdbojaagreat", sum := "96d73fae64918f2ee3f9087bc04a6514ccfe08d7a7fb9c6c20d606fc4323090a", func := "loop.example/g00851/laws.FnExactRisenLog", spec := "fnExactRisenLog", unfollowed := true, recurses := true, apart := false, narrowed := true }
def FnExactRisenLogUptoSaid : Prop := fnExactRisenLogUptoRow.holds Tryz.pinned (OpenSpec.upto fnExactRisenLogSpec)

/-- 'laws.FnExactBookIn', WHERE WHAT IT READS IS OF BULK AT MOST 1048576: true; the input reads as it did. -/
def fnExactBookInUptoRow : OpenClaim := { program := "ytphaggopgdbojaagreat", sum := "96d73fae64918f2ee3f9087bc04a6514ccfe08d7a7fb9c6c20d606fc4323090a", func := "loop.example/g00851/laws.FnExactBookIn", spec := "fnExactBookIn", unfollowed := true, recurses := true, apart := false, narrowed := true }
def FnExactBookInUptoSaid : Prop := fnExactBookInUptoRow.holds Tryz.pinned (OpenSpec.upto fnExactBookInSpec)

/-- 'laws.FnExactFallenLog', WHERE WHAT IT READS IS OF BULK AT MOST 1048576: true; the input reads as it did. -/
def fnExactFallenLogUptoRow : OpenClaim := { program := "ytphaggopgdbojaagreat", sum := "96d73fae64918f2ee3f9087bc04a6514ccfe08d7a7fb9c6c20d606fc4323090a", func := "loop.example/g00851/laws.FnExactFallenLog", spec := "fnExactFallenLog", unfollowed := true, recurses := true, apart := false, narrowed := true }
def FnExactFallenLogUptoSaid : Prop := fnExactFallenLogUptoRow.holds Tryz.pinned (OpenSpec.upto fnExactFallenLogSpec)

/-- 'laws.FnExactRecovered', WHERE WHAT IT READS IS OF BULK AT MOST 1048576: true; the input reads as it did. -/
def fnExactRecoveredUptoRow : OpenClaim := { program := "ytphaggopgdbojaagreat", sum := "96d73fae64918f2ee3f9087bc04a6514ccfe08d7a7fb9c6c20d606fc4323090a", func := "loop.example/g00851/laws.FnExactRecovered", spec := "fnExactRecovered", unfollowed := true, recurses := true, apart := false, narrowed := true }
def FnExactRecoveredUptoSaid : Prop := fnExactRecoveredUptoRow.holds Tryz.pinned (OpenSpec.upto fnExactRecoveredSpec)

/-- 'laws.FnExactSyncedLog', WHERE WHAT IT READS IS OF BULK AT MOST 1048576: true; the input reads as it did. -/
def fnExactSyncedLogUptoRow : OpenClaim := { program := "ytphaggopgdbojaagreat", sum := "96d73fae64918f2ee3f9087bc04a6514ccfe08d7a7fb9c6c20d606fc4323090a", func := "loop.example/g00851/laws.FnExactSyncedLog", spec := "fnExactSyncedLog", unfollowed := true, recurses := true, apart := false, narrowed := true }
def FnExactSyncedLogUptoSaid : Prop := fnExactSyncedLogUptoRow.holds Tryz.pinned (OpenSpec.upto fnExactSyncedLogSpec)

end Rows
end Go.Proofs.YtphaggopgdbojaaGreat
