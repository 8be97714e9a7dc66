/-
  NARROWER THAN 'FOR EVERY INPUT', by the rows' own cells (each row's printed sentence says how): FnExactAskedOf: ifaces, laid · FnTimesRise: ifaces, laid · FnFullBook: ifaces, laid · FnRing: ifaces, laid · FnDedup: ifaces, laid · FnTrims: ifaces, laid · FnOwed: ifaces, laid · FnFeedAll: ifaces, laid · FnLogStays: ifaces, laid.
  DERIVED. THE GIVEN ROWS OF THIS SEAT. 9 by the template 'for every input the law returns true; each argument reads behind the call as it read before'; 0 by the template 'total and deterministic' (their statements: YtinmcdcmidlgpaaGreatDoorTotals.lean).
  GIVEN WITH THE SEED: the statements are not yours to turn. If you find one false, say at which input.
  Laid BY PROGRAM, IN A SANDBOX (cutbox-rows.mjs): the forced cells as the released guide's own fill.sh prints them over the translation b23966fa6be8cec5… (all of the seat's roots in one cut). By AI agents, Wed Nov 11 2026. No macro, syntax, notation, axiom, sorry.
-/
import Derived.Test.YtinmcdcmidlgpaaGreatDoorChecked
import GoSem.Claim
import GoSem.ClaimJoined
import GoSem.ClaimMapViews
import Derived.JoinedTies
import Derived.KernelRfl
namespace Go.Proofs.YtinmcdcmidlgpaaGreatDoor
/- THE CELL 'sum', in the pinned program and in every row, IS THE sha256 OF THE DUMP (.gsa) THAT YtinmcdcmidlgpaaGreatDoorProg.lean LOADS. Nothing in Lean hashes anything: it is a label: what it is worth is what the hold of that sum in a sandbox is worth. -/
noncomputable def Tryz.pinned : Pinned := { name := "ytinmcdcmidlgpaagreatdoor", sum := "b23966fa6be8cec58b901cd863bde8d9f324f58b862ed454d81c232552147338", checked := Tryz.checked }
namespace Rows
def none {H : Type} : Left H := { results := [], args := [] }

/- WHAT THE LISTED PACKAGE-LEVEL VARIABLES READ AS WHEN THE CALL BEGINS. Each datum BY PROGRAM (the guide's laid-datum.mjs) off the statement by which the dump's own 'gosem.cut.vars' lays the variable. In a bare row this is a premise. The card (YtinmcdcmidlgpaaGreatDoorCards.lean) ties it to the program's text. -/
def laid_errors_errorType {H : Type} : DataW H := .iface "internal/reflectlite.rtype" (.agg [.ptr (.lit (.string [101, 114, 114, 111, 114]))])
def laid_loop_example_g00851_impl_errFull {H : Type} : DataW H := .iface "*errors.errorString" (.ptr (.agg [.lit (.string [110, 111, 32, 102, 117, 114, 116, 104, 101, 114, 32, 101, 110, 116, 114, 121, 32, 102, 105, 116, 115])]))

/-- 'laws.FnExactAskedOf': WHATEVER THE INPUT: true; the input reads as it did. -/
def fnExactAskedOfSpec : ChangeSpec := { name := "fnExactAskedOf", vars := ["loop.example/g00851/impl.errFull"], fn := fun _ => fun
  | [d1, d2, d3, g1] => { results := [.lit (.bool true)], args := [d1, d2, d3], vars := [g1] }
  | _ => none }
def fnExactAskedOfRow : OpenClaim := { program := "ytinmcdcmidlgpaagreatdoor", sum := "b23966fa6be8cec58b901cd863bde8d9f324f58b862ed454d81c232552147338", func := "loop.example/g00851/laws.FnExactAskedOf", spec := "fnExactAskedOf", inPlace := ["internal/reflectlite.ValueOf", "(internal/reflectlite.Value).Type", "(internal/reflectlite.Value).IsNil", "internal/reflectlite.TypeOf", "(internal/reflectlite.Value).Elem", "(internal/reflectlite.Value).Set"], unfollowed := true, recurses := true, named := ["loop.example/g00851/impl.errFull", "errors.errorType"], ifaces := true, apart := false, laid := [("errors.errorType", laid_errors_errorType), ("loop.example/g00851/impl.errFull", laid_loop_example_g00851_impl_errFull)] }
def FnExactAskedOfSaid : Prop := fnExactAskedOfRow.holds Tryz.pinned (OpenSpec.ofChange fnExactAskedOfSpec)

/-- ITS FALSE NEIGHBOUR: 'it returns false'. Refute it at one input. -/
def fnExactAskedOfWrong : ChangeSpec := { name := "fnExactAskedOf", vars := ["loop.example/g00851/impl.errFull"], fn := fun _ => fun
  | [d1, d2, d3, g1] => { results := [.lit (.bool false)], args := [d1, d2, d3], vars := [g1] }
  | _ => none }
def FnExactAskedOfWrongFalsely : Prop := fnExactAskedOfRow.holds Tryz.pinned (OpenSpec.ofChange fnExactAskedOfWrong)

/-- 'laws.FnTimesRise': WHATEVER THE INPUT: true; the input reads as it did. -/
def fnTimesRiseSpec : ChangeSpec := { name := "fnTimesRise", vars := ["loop.example/g00851/impl.errFull"], fn := fun _ => fun
  | [d, g1] => { results := [.lit (.bool true)], args := [d], vars := [g1] }
  | _ => none }
def fnTimesRiseRow : OpenClaim := { program := "ytinmcdcmidlgpaagreatdoor", sum := "b23966fa6be8cec58b901cd863bde8d9f324f58b862ed454d81c232552147338", func := "loop.example/g00851/laws.FnTimesRise", spec := "fnTimesRise", inPlace := ["internal/reflectlite.ValueOf", "(internal/reflectlite.Value).Type", "(internal/reflectlite.Value).IsNil", "internal/reflectlite.TypeOf", "(internal/reflectlite.Value).Elem", "(internal/reflectlite.Value).Set"], unfollowed := true, recurses := true, named := ["loop.example/g00851/impl.errFull", "errors.errorType"], ifaces := true, apart := false, laid := [("errors.errorType", laid_errors_errorType), ("loop.example/g00851/impl.errFull", laid_loop_example_g00851_impl_errFull)] }
def FnTimesRiseSaid : Prop := fnTimesRiseRow.holds Tryz.pinned (OpenSpec.ofChange fnTimesRiseSpec)

/-- ITS FALSE NEIGHBOUR: 'it returns false'. Refute it at one input. -/
def fnTimesRiseWrong : ChangeSpec := { name := "fnTimesRise", vars := ["loop.example/g00851/impl.errFull"], fn := fun _ => fun
  | [d, g1] => { results := [.lit (.bool false)], args := [d], vars := [g1] }
  | _ => none }
def FnTimesRiseWrongFalsely : Prop := fnTimesRiseRow.holds Tryz.pinned (OpenSpec.ofChange fnTimesRiseWrong)

/-- 'laws.FnFullBook': WHATEVER THE INPUT: true; the input reads as it did. -/
def fnFullBookSpec : ChangeSpec := { name := "fnFullBook", vars := ["loop.example/g00851/impl.errFull"], fn := fun _ => fun
  | [d, g1] => { results := [.lit (.bool true)], args := [d], vars := [g1] }
  | _ => none }
def fnFullBookRow : OpenClaim := { program := "ytinmcdcmidlgpaagreatdoor", sum := "b23966fa6be8cec58b901cd863bde8d9f324f58b862ed454d81c232552147338", func := "loop.example/g00851/laws.FnFullBook", spec := "fnFullBook", inPlace := ["internal/reflectlite.ValueOf", "(internal/reflectlite.Value).Type", "(internal/reflectlite.Value).IsNil", "internal/reflectlite.TypeOf", "(internal/reflectlite.Value).Elem", "(internal/reflectlite.Value).Set"], unfollowed := true, recurses := true, named := ["loop.example/g00851/impl.errFull", "errors.errorType"], ifaces := true, apart := false, laid := [("errors.errorType", laid_errors_errorType), ("loop.example/g00851/impl.errFull", laid_loop_example_g00851_impl_errFull)] }
def FnFullBookSaid : Prop := fnFullBookRow.holds Tryz.pinned (OpenSpec.ofChange fnFullBookSpec)

/-- ITS FALSE NEIGHBOUR: 'it returns false'. Refute it at one input. -/
def fnFullBookWrong : ChangeSpec := { name := "fnFullBook", vars := ["loop.example/g00851/impl.errFull"], fn := fun _ => fun
  | [d, g1] => { results := [.lit (.bool false)], args := [d], vars := [g1] }
  | _ => none }
def FnFullBookWrongFalsely : Prop := fnFullBookRow.holds Tryz.pinned (OpenSpec.ofChange fnFullBookWrong)

/-- 'laws.FnRing': WHATEVER THE INPUT: true; the input reads as it did. -/
def fnRingSpec : ChangeSpec := { name := "fnRing", vars := ["loop.example/g00851/impl.errFull"], fn := fun _ => fun
  | [d, g1] => { results := [.lit (.bool true)], args := [d], vars := [g1] }
  | _ => none }
def fnRingRow : OpenClaim := { program := "ytinmcdcmidlgpaagreatdoor", sum := "b23966fa6be8cec58b901cd863bde8d9f324f58b862ed454d81c232552147338", func := "loop.example/g00851/laws.FnRing", spec := "fnRing", inPlace := ["internal/reflectlite.ValueOf", "(internal/reflectlite.Value).Type", "(internal/reflectlite.Value).IsNil", "internal/reflectlite.TypeOf", "(internal/reflectlite.Value).Elem", "(internal/reflectlite.Value).Set"], unfollowed := true, recurses := true, named := ["loop.example/g00851/impl.errFull", "errors.errorType"], ifaces := true, apart := false, laid := [("errors.errorType", laid_errors_errorType), ("loop.example/g00851/impl.errFull", laid_loop_example_g00851_impl_errFull)] }
def FnRingSaid : Prop := fnRingRow.holds Tryz.pinned (OpenSpec.ofChange fnRingSpec)

/-- ITS FALSE NEIGHBOUR: 'it returns false'. Refute it at one input. -/
def fnRingWrong : ChangeSpec := { name := "fnRing", vars := ["loop.example/g00851/impl.errFull"], fn := fun _ => fun
  | [d, g1] => { results := [.lit (.bool false)], args := [d], vars := [g1] }
  | _ => none }
def FnRingWrongFalsely : Prop := fnRingRow.holds Tryz.pinned (OpenSpec.ofChange fnRingWrong)

/-- 'laws.FnDedup': WHATEVER THE INPUT: true; the input reads as it did. -/
def fnDedupSpec : ChangeSpec := { name := "fnDedup", vars := ["loop.example/g00851/impl.errFull"], fn := fun _ => fun
  | [d, g1] => { results := [.lit (.bool true)], args := [d], vars := [g1] }
  | _ => none }
def fnDedupRow : OpenClaim := { program := "ytinmcdcmidlgpaagreatdoor", sum := "b23966fa6be8cec58b901cd863bde8d9f324f58b862ed454d81c232552147338", func := "loop.example/g00851/laws.FnDedup", spec := "fnDedup", inPlace := ["internal/reflectlite.ValueOf", "(internal/reflectlite.Value).Type", "(internal/reflectlite.Value).IsNil", "internal/reflectlite.TypeOf", "(internal/reflectlite.Value).Elem", "(internal/reflectlite.Value).Set"], unfollowed := true, recurses := true, named := ["loop.example/g00851/impl.errFull", "errors.errorType"], ifaces := true, apart := false, laid := [("errors.errorType", laid_errors_errorType), ("loop.example/g00851/impl.errFull", laid_loop_example_g00851_impl_errFull)] }
def FnDedupSaid : Prop := fnDedupRow.holds Tryz.pinned (OpenSpec.ofChange fnDedupSpec)

/-- ITS FALSE NEIGHBOUR: 'it returns false'. Refute it at one input. -/
def fnDedupWrong : ChangeSpec := { name := "fnDedup", vars := ["loop.example/g00851/impl.errFull"], fn := fun _ => fun
  | [d, g1] => { results := [.lit (.bool false)], args := [d], vars := [g1] }
  | _ => none }
def FnDedupWrongFalsely : Prop := fnDedupRow.holds Tryz.pinned (OpenSpec.ofChange fnDedupWrong)

/-- 'laws.FnTrims': WHATEVER THE INPUT: true; the input reads as it did. -/
def fnTrimsSpec : ChangeSpec := { name := "fnTrims", vars := ["loop.example/g00851/impl.errFull"], fn := fun _ => fun
  | [d, g1] => { results := [.lit (.bool true)], args := [d], vars := [g1] }
  | _ => none }
def fnTrimsRow : OpenClaim := { program := "ytinmcdcmidlgpaagreatdoor", sum := "b23966fa6be8cec58b901cd863bde8d9f324f58b862ed454d81c232552147338", func := "loop.example/g00851/laws.FnTrims", spec := "fnTrims", inPlace := ["internal/reflectlite.ValueOf", "(internal/reflectlite.Value).Type", "(internal/reflectlite.Value).IsNil", "internal/reflectlite.TypeOf", "(internal/reflectlite.Value).Elem", "(internal/reflectlite.Value).Set"], unfollowed := true, recurses := true, named := ["loop.example/g00851/impl.errFull", "errors.errorType"], ifaces := true, apart := false, laid := [("errors.errorType", laid_errors_errorType), ("loop.example/g00851/impl.errFull", laid_loop_example_g00851_impl_errFull)] }
def FnTrimsSaid : Prop := fnTrimsRow.holds Tryz.pinned (OpenSpec.ofChange fnTrimsSpec)

/-- ITS FALSE NEIGHBOUR: 'it returns false'. Refute it at one input. -/
def fnTrimsWrong : ChangeSpec := { name := "fnTrims", vars := ["loop.example/g00851/impl.errFull"], fn := fun _ => fun
  | [d, g1] => { results := [.lit (.bool false)], args := [d], vars := [g1] }
  | _ => none }
def FnTrimsWrongFalsely : Prop := fnTrimsRow.holds Tryz.pinned (OpenSpec.ofChange fnTrimsWrong)

/-- 'laws.FnOwed': WHATEVER THE INPUT: true; the input reads as it did. -/
def fnOwedSpec : ChangeSpec := { name := "fnOwed", vars := ["loop.example/g00851/impl.errFull"], fn := fun _ => fun
  | [d, g1] => { results := [.lit (.bool true)], args := [d], vars := [g1] }
  | _ => none }
def fnOwedRow : OpenClaim := { program := "ytinmcdcmidlgpaagreatdoor", sum := "b23966fa6be8cec58b901cd863bde8d9f324f58b862ed454d81c232552147338", func := "loop.example/g00851/laws.FnOwed", spec := "fnOwed", inPlace := ["internal/reflectlite.ValueOf", "(internal/reflectlite.Value).Type", "(internal/reflectlite.Value).IsNil", "internal/reflectlite.TypeOf", "(internal/reflectlite.Value).Elem", "(internal/reflectlite.Value).Set"], unfollowed := true, recurses := true, named := ["loop.example/g00851/impl.errFull", "errors.errorType"], ifaces := true, apart := false, laid := [("errors.errorType", laid_errors_errorType), ("loop.example/g00851/impl.errFull", laid_loop_example_g00851_impl_errFull)] }
def FnOwedSaid : Prop := fnOwedRow.holds Tryz.pinned (OpenSpec.ofChange fnOwedSpec)

/-- ITS FALSE NEIGHBOUR: 'it returns false'. Refute it at one input. -/
def fnOwedWrong : ChangeSpec := { name := "fnOwed", vars := ["loop.example/g00851/impl.errFull"], fn := fun _ => fun
  | [d, g1] => { results := [.lit (.bool false)], args := [d], vars := [g1] }
  | _ => none }
def FnOwedWrongFalsely : Prop := fnOwedRow.holds Tryz.pinned (OpenSpec.ofChange fnOwedWrong)

/-- 'laws.FnFeedAll': WHATEVER THE INPUT: true; the input reads as it did. -/
def fnFeedAllSpec : ChangeSpec := { name := "fnFeedAll", vars := ["loop.example/g00851/impl.errFull"], fn := fun _ => fun
  | [d, g1] => { results := [.lit (.bool true)], args := [d], vars := [g1] }
  | _ => none }
def fnFeedAllRow : OpenClaim := { program := "ytinmcdcmidlgpaagreatdoor", sum := "b23966fa6be8cec58b901cd863bde8d9f324f58b862ed454d81c232552147338", func := "loop.example/g00851/laws.FnFeedAll", spec := "fnFeedAll", inPlace := ["internal/reflectlite.ValueOf", "(internal/reflectlite.Value).Type", "(internal/reflectlite.Value).IsNil", "internal/reflectlite.TypeOf", "(internal/reflectlite.Value).Elem", "(internal/reflectlite.Value).Set"], unfollowed := true, recurses := true, named := ["loop.example/g00851/impl.errFull", "errors.errorType"], ifaces := true, apart := false, laid := [("errors.errorType", laid_errors_errorType), ("loop.example/g00851/impl.errFull", laid_loop_example_g00851_impl_errFull)] }
def FnFeedAllSaid : Prop := fnFeedAllRow.holds Tryz.pinned (OpenSpec.ofChange fnFeedAllSpec)

/-- ITS FALSE NEIGHBOUR: 'it returns false'. Refute it at one input. -/
def fnFeedAllWrong : ChangeSpec := { name := "fnFeedAll", vars := ["loop.example/g00851/impl.errFull"], fn := fun _ => fun
  | [d, g1] => { results := [.lit (.bool false)], args := [d], vars := [g1] }
  | _ => none }
def FnFeedAllWrongFalsely : Prop := fnFeedAllRow.holds Tryz.pinned (OpenSpec.ofChange fnFeedAllWrong)

/-- 'laws.FnLogStays': WHATEVER THE INPUT: true; the input reads as it did. -/
def fnLogStaysSpec : ChangeSpec := { name := "fnLogStays", vars := ["loop.example/g00851/impl.errFull"], fn := fun _ => fun
  | [d, g1] => { results := [.lit (.bool true)], args := [d], vars := [g1] }
  | _ => none }
def fnLogStaysRow : OpenClaim := { program := "ytinmcdcmidlgpaagreatdoor", sum := "b23966fa6be8cec58b901cd863bde8d9f324f58b862ed454d81c232552147338", func := "loop.example/g00851/laws.FnLogStays", spec := "fnLogStays", inPlace := ["internal/reflectlite.ValueOf", "(internal/reflectlite.Value).Type", "(internal/reflectlite.Value).IsNil", "internal/reflectlite.TypeOf", "(internal/reflectlite.Value).Elem", "(internal/reflectlite.Value).Set"], unfollowed := true, recurses := true, named := ["loop.example/g00851/impl.errFull", "errors.errorType"], ifaces := true, apart := false, laid := [("errors.errorType", laid_errors_errorType), ("loop.example/g00851/impl.errFull", laid_loop_example_g00851_impl_errFull)] }
def FnLogStaysSaid : Prop := fnLogStaysRow.holds Tryz.pinned (OpenSpec.ofChange fnLogStaysSpec)

/-- ITS FALSE NEIGHBOUR: 'it returns false'. Refute it at one input. -/
def fnLogStaysWrong : ChangeSpec := { name := "fnLogStays", vars := ["loop.example/g00851/impl.errFull"], fn := fun _ => fun
  | [d, g1] => { results := [.lit (.bool false)], args := [d], vars := [g1] }
  | _ => none }
def FnLogStaysWrongFalsely : Prop := fnLogStaysRow.holds Tryz.pinned (OpenSpec.ofChange fnLogStaysWrong)

/- THE SECOND FORM. 'bulk': how many values and letters a reading holds, each counted each time it is reached (what is shared counts as often as it is met; a slice's spare places count too). A statement '..UptoSaid' is the law's where the arguments, and the package variables that the reading takes, are together of bulk at most 1048576: NARROWER than '..Said'. Prove '..Said' where nothing that the law and all that it calls make is longer than what came in: it says more and counts as full. Else prove '..UptoSaid'. A law counts once. -/
mutual
def uptoBulk {H : Type} : DataW H → Nat
  | .lit (.string bytes) => bytes.length + 1
  | .lit _ => 1
  | .nil => 1
  | .ptr d => uptoBulk d + 1
  | .slice elems spare => uptoBulkAll elems + uptoBulkAll spare + 1
  | .agg parts => uptoBulkAll parts + 1
  | .iface _ d => uptoBulk d + 1
  | .map entries => uptoBulkEntries entries + 1
  | .held _ => 1
def uptoBulkAll {H : Type} : List (DataW H) → Nat
  | [] => 0
  | d :: r => uptoBulk d + uptoBulkAll r
def uptoBulkEntries {H : Type} : List (Lit × DataW H) → Nat
  | [] => 0
  | x :: r => uptoBulkEntry x + uptoBulkEntries r
def uptoBulkEntry {H : Type} : Lit × DataW H → Nat
  | (.string bytes, d) => bytes.length + uptoBulk d + 1
  | (_, d) => uptoBulk d + 1
 end
def uptoSmall : (H : Type) → List (DataW H) → Bool := fun _ ds => decide (uptoBulkAll ds ≤ 1048576)
def OpenSpec.upto (s : _root_.Go.ChangeSpec) : _root_.Go.OpenSpec := { _root_.Go.OpenSpec.ofChange s with cond := some uptoSmall }

/-- 'laws.FnExactAskedOf', WHERE WHAT IT READS IS OF BULK AT MOST 1048576: true; the input reads as it did. -/
def fnExactAskedOfUptoRow : OpenClaim := { program := "ytinmcdcmidlgpaagreatdoor", sum := "b23966fa6be8cec58b901cd863bde8d9f324f58b862ed454d81c232552147338", func := "loop.example/g00851/laws.FnExactAskedOf", spec := "fnExactAskedOf", inPlace := ["internal/reflectlite.ValueOf", "(internal/reflectlite.Value).Type", "(internal/reflectlite.Value).IsNil", "internal/reflectlite.TypeOf", "(internal/reflectlite.Value).Elem", "(internal/reflectlite.Value).Set"], unfollowed := true, recurses := true, named := ["loop.example/g00851/impl.errFull", "errors.errorType"], ifaces := true, apart := false, laid := [("errors.errorType", laid_errors_errorType), ("loop.example/g00851/impl.errFull", laid_loop_example_g00851_impl_errFull)], narrowed := true }
def FnExactAskedOfUptoSaid : Prop := fnExactAskedOfUptoRow.holds Tryz.pinned (OpenSpec.upto fnExactAskedOfSpec)

/-- 'laws.FnTimesRise', WHERE WHAT IT READS IS OF BULK AT MOST 1048576: true; the input reads as it did. -/
def fnTimesRiseUptoRow : OpenClaim := { program := "ytinmcdcmidlgpaagreatdoor", sum := "b23966fa6be8cec58b901cd863bde8d9f324f58b862ed454d81c232552147338", func := "loop.example/g00851/laws.FnTimesRise", spec := "fnTimesRise", inPlace := ["internal/reflectlite.ValueOf", "(internal/reflectlite.Value).Type", "(internal/reflectlite.Value).IsNil", "internal/reflectlite.TypeOf", "(internal/reflectlite.Value).Elem", "(internal/reflectlite.Value).Set"], unfollowed := true, recurses := true, named := ["loop.example/g00851/impl.errFull", "errors.errorType"], ifaces := true, apart := false, laid := [("errors.errorType", laid_errors_errorType), ("loop.example/g00851/impl.errFull", laid_loop_example_g00851_impl_errFull)], narrowed := true }
def FnTimesRiseUptoSaid : Prop := fnTimesRiseUptoRow.holds Tryz.pinned (OpenSpec.upto fnTimesRiseSpec)

/-- 'laws.FnFullBook', WHERE WHAT IT READS IS OF BULK AT MOST 1048576: true; the input reads as it did. -/
def fnFullBookUptoRow : OpenClaim := { program := "ytinmcdcmidlgpaagreatdoor", sum := "b23966fa6be8cec58b901cd863bde8d9f324f58b862ed454d81c232552147338", func := "loop.example/g00851/laws.FnFullBook", spec := "fnFullBook", inPlace := ["internal/reflectlite.ValueOf", "(internal/reflectlite.Value).Type", "(internal/reflectlite.Value).IsNil", "internal/reflectlite.TypeOf", "(internal/reflectlite.Value).Elem", "(internal/reflectlite.Value).Set"], unfollowed := true, recurses := true, named := ["loop.example/g00851/impl.errFull", "errors.errorType"], ifaces := true, apart := false, laid := [("errors.errorType", laid_errors_errorType), ("loop.example/g00851/impl.errFull", laid_loop_example_g00851_impl_errFull)], narrowed := true }
def FnFullBookUptoSaid : Prop := fnFullBookUptoRow.holds Tryz.pinned (OpenSpec.upto fnFullBookSpec)

/-- 'laws.FnRing', WHERE WHAT IT READS IS OF BULK AT MOST 1048576: true; the input reads as it did. -/
def fnRingUptoRow : OpenClaim := { program := "ytinmcdcmidlgpaagreatdoor", sum := "b23966fa6be8cec58b901cd863bde8d9f324f58b862ed454d81c232552147338", func := "loop.example/g00851/laws.FnRing", spec := "fnRing", inPlace := ["internal/reflectlite.ValueOf", "(internal/reflectlite.Value).Type", "(internal/reflectlite.Value).IsNil", "internal/reflectlite.TypeOf", "(internal/reflectlite.Value).Elem", "(internal/reflectlite.Value).Set"], unfollowed := true, recurses := true, named := ["loop.example/g00851/impl.errFull", "errors.errorType"], ifaces := true, apart := false, laid := [("errors.errorType", laid_errors_errorType), ("loop.example/g00851/impl.errFull", laid_loop_example_g00851_impl_errFull)], narrowed := true }
def FnRingUptoSaid : Prop := fnRingUptoRow.holds Tryz.pinned (OpenSpec.upto fnRingSpec)

/-- 'laws.FnDedup', WHERE WHAT IT READS IS OF BULK AT MOST 1048576: true; the input reads as it did. -/
def fnDedupUptoRow : OpenClaim := { program := "ytinmcdcmidlgpaagreatdoor", sum := "b23966fa6be8cec58b901cd863bde8d9f324f58b862ed454d81c232552147338", func := "loop.example/g00851/laws.FnDedup", spec := "fnDedup", inPlace := ["internal/reflectlite.ValueOf", "(internal/reflectlite.Value).Type", "(internal/reflectlite.Value).IsNil", "internal/reflectlite.TypeOf", "(internal/reflectlite.Value).Elem", "(internal/reflectlite.Value).Set"], unfollowed := true, recurses := true, named := ["loop.example/g00851/impl.errFull", "errors.errorType"], ifaces := true, apart := false, laid := [("errors.errorType", laid_errors_errorType), ("loop.example/g00851/impl.errFull", laid_loop_example_g00851_impl_errFull)], narrowed := true }
def FnDedupUptoSaid : Prop := fnDedupUptoRow.holds Tryz.pinned (OpenSpec.upto fnDedupSpec)

/-- 'laws.FnTrims', WHERE WHAT IT READS IS OF BULK AT MOST 1048576: true; the input reads as it did. -/
def fnTrimsUptoRow : OpenClaim := { program := "ytinmcdcmidlgpaagreatdoor", sum := "b23966fa6be8cec58b901cd863bde8d9f324f58b862ed454d81c232552147338", func := "loop.example/g00851/laws.FnTrims", spec := "fnTrims", inPlace := ["internal/reflectlite.ValueOf", "(internal/reflectlite.Value).Type", "(internal/reflectlite.Value).IsNil", "internal/reflectlite.TypeOf", "(internal/reflectlite.Value).Elem", "(internal/reflectlite.Value).Set"], unfollowed := true, recurses := true, named := ["loop.example/g00851/impl.errFull", "errors.errorType"], ifaces := true, apart := false, laid := [("errors.errorType", laid_errors_errorType), ("loop.example/g00851/impl.errFull", laid_loop_example_g00851_impl_errFull)], narrowed := true }
def FnTrimsUptoSaid : Prop := fnTrimsUptoRow.holds Tryz.pinned (OpenSpec.upto fnTrimsSpec)

/-- 'laws.FnOwed', WHERE WHAT IT READS IS OF BULK AT MOST 1048576: true; the input reads as it did. -/
def fnOwedUptoRow : OpenClaim := { program := "ytinmcdcmidlgpaagreatdoor", sum := "b23966fa6be8cec58b901cd863bde8d9f324f58b862ed454d81c232552147338", func := "loop.example/g00851/laws.FnOwed", spec := "fnOwed", inPlace := ["internal/reflectlite.ValueOf", "(internal/reflectlite.Value).Type", "(internal/reflectlite.Value).IsNil", "internal/reflectlite.TypeOf", "(internal/reflectlite.Value).Elem", "(internal/reflectlite.Value).Set"], unfollowed := true, recurses := true, named := ["loop.example/g00851/impl.errFull", "errors.errorType"], ifaces := true, apart := false, laid := [("errors.errorType", laid_errors_errorType), ("loop.example/g00851/impl.errFull", laid_loop_example_g00851_impl_errFull)], narrowed := true }
def FnOwedUptoSaid : Prop := fnOwedUptoRow.holds Tryz.pinned (OpenSpec.upto fnOwedSpec)

/-- 'laws.FnFeedAll', WHERE WHAT IT READS IS OF BULK AT MOST 1048576: true; the input reads as it did. -/
def fnFeedAllUptoRow : OpenClaim := { program := "ytinmcdcmidlgpaagreatdoor", sum := "b23966fa6be8cec58b901cd863bde8d9f324f58b862ed454d81c232552147338", func := "loop.example/g00851/laws.FnFeedAll", spec := "fnFeedAll", inPlace := ["internal/reflectlite.ValueOf", "(internal/reflectlite.Value).Type", "(internal/reflectlite.Value).IsNil", "internal/reflectlite.TypeOf", "(internal/reflectlite.Value).Elem", "(internal/reflectlite.Value).Set"], unfollowed := true, recurses := true, named := ["loop.example/g00851/impl.errFull", "errors.errorType"], ifaces := true, apart := false, laid := [("errors.errorType", laid_errors_errorType), ("loop.example/g00851/impl.errFull", laid_loop_example_g00851_impl_errFull)], narrowed := true }
def FnFeedAllUptoSaid : Prop := fnFeedAllUptoRow.holds Tryz.pinned (OpenSpec.upto fnFeedAllSpec)

/-- 'laws.FnLogStays', WHERE WHAT IT READS IS OF BULK AT MOST 1048576: true; the input reads as it did. -/
def fnLogStaysUptoRow : OpenClaim := { program := "ytinmcdcmidlgpaagreatdoor", sum := "b23966fa6be8cec58b901cd863bde8d9f324f58b862ed454d81c232552147338", func := "loop.example/g00851/laws.FnLogStays", spec := "fnLogStays", inPlace := ["internal/reflectlite.ValueOf", "(internal/reflectlite.Value).Type", "(internal/reflectlite.Value).IsNil", "internal/reflectlite.TypeOf", "(internal/reflectlite.Value).Elem", "(internal/reflectlite.Value).Set"], unfollowed := true, recurses := true, named := ["loop.example/g00851/impl.errFull", "errors.errorType"], ifaces := true, apart := false, laid := [("errors.errorType", laid_errors_errorType), ("loop.example/g00851/impl.errFull", laid_loop_example_g00851_impl_errFull)], narrowed := true }
def FnLogStaysUptoSaid : Prop := fnLogStaysUptoRow.holds Tryz.pinned (OpenSpec.upto fnLogStaysSpec)

end Rows
end Go.Proofs.YtinmcdcmidlgpaaGreatDoor
