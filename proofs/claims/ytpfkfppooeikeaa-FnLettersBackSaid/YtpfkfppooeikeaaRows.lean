/-
  No cell of these rows narrows 'for every input' (looked for: loops, veiled, ifaces, maps, wideKeys, modest, calm, conditions, laid).
  DERIVED. THE GIVEN ROWS OF THIS SEAT. 22 by the template 'for every input the law returns true; each argument reads behind the call as it read before'; 0 by the template 'total and deterministic' (their statements: YtpfkfppooeikeaaTotals.lean).
  GIVEN WITH THE SEED: the statements are not yours to turn. If you find one false, say at which input.
  Laid BY PROGRAM, IN A SANDBOX (cutbox-rows.mjs): the forced cells as the released guide's own fill.sh prints them over the translation 63dd97df736a5838… (all of the seat's roots in one cut). By AI agents, Wed Nov 11 2026. No macro, syntax, notation, axiom, sorry.
-/
import Derived.Test.YtpfkfppooeikeaaChecked
import GoSem.Claim
import GoSem.ClaimJoined
import GoSem.ClaimMapViews
import Derived.JoinedTies
import Derived.KernelRfl
namespace Go.Proofs.Ytpfkfppooeikeaa
/- THE CELL 'sum', in the pinned program and in every row, IS THE sha256 OF THE DUMP (.gsa) THAT YtpfkfppooeikeaaProg.lean LOADS. Nothing in Lean hashes anything: it is a label: what it is worth is what the hold of that sum in a sandbox is worth. -/
noncomputable def Try.pinned : Pinned := { name := "ytpfkfppooeikeaa", sum := "63dd97df736a583865679a26a0a5a595de351af4665ae33e09b75a252ad2f303", checked := Try.checked }
namespace Rows
def none {H : Type} : Left H := { results := [], args := [] }

/-- 'laws.FnExactFetchRow': WHATEVER THE INPUT: true; the input reads as it did. -/
def fnExactFetchRowSpec : ChangeSpec := { name := "fnExactFetchRow", fn := fun _ => fun
  | [d] => { results := [.lit (.bool true)], args := [d] }
  | _ => none }
def fnExactFetchRowRow : OpenClaim := { program := "ytpfkfppooeikeaa", sum := "63dd97df736a583865679a26a0a5a595de351af4665ae33e09b75a252ad2f303", func := "loop.example/g00851/laws.FnExactFetchRow", spec := "fnExactFetchRow", unfollowed := true, recurses := true, apart := false }
def FnExactFetchRowSaid : Prop := fnExactFetchRowRow.holds Try.pinned (OpenSpec.ofChange fnExactFetchRowSpec)

/-- ITS FALSE NEIGHBOUR: 'it returns false'. Refute it at one input. -/
def fnExactFetchRowWrong : ChangeSpec := { name := "fnExactFetchRow", fn := fun _ => fun
  | [d] => { results := [.lit (.bool false)], args := [d] }
  | _ => none }
def FnExactFetchRowWrongFalsely : Prop := fnExactFetchRowRow.holds Try.pinned (OpenSpec.ofChange fnExactFetchRowWrong)

/-- 'laws.FnExactTrimRow': WHATEVER THE INPUT: true; the input reads as it did. -/
def fnExactTrimRowSpec : ChangeSpec := { name := "fnExactTrimRow", fn := fun _ => fun
  | [d] => { results := [.lit (.bool true)], args := [d] }
  | _ => none }
def fnExactTrimRowRow : OpenClaim := { program := "ytpfkfppooeikeaa", sum := "63dd97df736a583865679a26a0a5a595de351af4665ae33e09b75a252ad2f303", func := "loop.example/g00851/laws.FnExactTrimRow", spec := "fnExactTrimRow", unfollowed := true, recurses := true, apart := false }
def FnExactTrimRowSaid : Prop := fnExactTrimRowRow.holds Try.pinned (OpenSpec.ofChange fnExactTrimRowSpec)

/-- ITS FALSE NEIGHBOUR: 'it returns false'. Refute it at one input. -/
def fnExactTrimRowWrong : ChangeSpec := { name := "fnExactTrimRow", fn := fun _ => fun
  | [d] => { results := [.lit (.bool false)], args := [d] }
  | _ => none }
def FnExactTrimRowWrongFalsely : Prop := fnExactTrimRowRow.holds Try.pinned (OpenSpec.ofChange fnExactTrimRowWrong)

/-- 'laws.FnExactPollRow': WHATEVER THE INPUT: true; the input reads as it did. -/
def fnExactPollRowSpec : ChangeSpec := { name := "fnExactPollRow", fn := fun _ => fun
  | [d] => { results := [.lit (.bool true)], args := [d] }
  | _ => none }
def fnExactPollRowRow : OpenClaim := { program := "ytpfkfppooeikeaa", sum := "63dd97df736a583865679a26a0a5a595de351af4665ae33e09b75a252ad2f303", func := "loop.example/g00851/laws.FnExactPollRow", spec := "fnExactPollRow", unfollowed := true, recurses := true, apart := false }
def FnExactPollRowSaid : Prop := fnExactPollRowRow.holds Try.pinned (OpenSpec.ofChange fnExactPollRowSpec)

/-- ITS FALSE NEIGHBOUR: 'it returns false'. Refute it at one input. -/
def fnExactPollRowWrong : ChangeSpec := { name := "fnExactPollRow", fn := fun _ => fun
  | [d] => { results := [.lit (.bool false)], args := [d] }
  | _ => none }
def FnExactPollRowWrongFalsely : Prop := fnExactPollRowRow.holds Try.pinned (OpenSpec.ofChange fnExactPollRowWrong)

/-- 'laws.FnExactRowFetch': WHATEVER THE INPUT: true; the input reads as it did. -/
def fnExactRowFetchSpec : ChangeSpec := { name := "fnExactRowFetch", fn := fun _ => fun
  | [d] => { results := [.lit (.bool true)], args := [d] }
  | _ => none }
def fnExactRowFetchRow : OpenClaim := { program := "ytpfkfppooeikeaa", sum := "63dd97df736a583865679a26a0a5a595de351af4665ae33e09b75a252ad2f303", func := "loop.example/g00851/laws.FnExactRowFetch", spec := "fnExactRowFetch", unfollowed := true, recurses := true, apart := false }
def FnExactRowFetchSaid : Prop := fnExactRowFetchRow.holds Try.pinned (OpenSpec.ofChange fnExactRowFetchSpec)

/-- ITS FALSE NEIGHBOUR: 'it returns false'. Refute it at one input. -/
def fnExactRowFetchWrong : ChangeSpec := { name := "fnExactRowFetch", fn := fun _ => fun
  | [d] => { results := [.lit (.bool false)], args := [d] }
  | _ => none }
def FnExactRowFetchWrongFalsely : Prop := fnExactRowFetchRow.holds Try.pinned (OpenSpec.ofChange fnExactRowFetchWrong)

/-- 'laws.FnExactRowTrim': WHATEVER THE INPUT: true; the input reads as it did. -/
def fnExactRowTrimSpec : ChangeSpec := { name := "fnExactRowTrim", fn := fun _ => fun
  | [d] => { results := [.lit (.bool true)], args := [d] }
  | _ => none }
def fnExactRowTrimRow : OpenClaim := { program := "ytpfkfppooeikeaa", sum := "63dd97df736a583865679a26a0a5a595de351af4665ae33e09b75a252ad2f303", func := "loop.example/g00851/laws.FnExactRowTrim", spec := "fnExactRowTrim", unfollowed := true, recurses := true, apart := false }
def FnExactRowTrimSaid : Prop := fnExactRowTrimRow.holds Try.pinned (OpenSpec.ofChange fnExactRowTrimSpec)

/-- ITS FALSE NEIGHBOUR: 'it returns false'. Refute it at one input. -/
def fnExactRowTrimWrong : ChangeSpec := { name := "fnExactRowTrim", fn := fun _ => fun
  | [d] => { results := [.lit (.bool false)], args := [d] }
  | _ => none }
def FnExactRowTrimWrongFalsely : Prop := fnExactRowTrimRow.holds Try.pinned (OpenSpec.ofChange fnExactRowTrimWrong)

/-- 'laws.FnExactRowPoll': WHATEVER THE INPUT: true; the input reads as it did. -/
def fnExactRowPollSpec : ChangeSpec := { name := "fnExactRowPoll", fn := fun _ => fun
  | [d] => { results := [.lit (.bool true)], args := [d] }
  | _ => none }
def fnExactRowPollRow : OpenClaim := { program := "ytpfkfppooeikeaa", sum := "63dd97df736a583865679a26a0a5a595de351af4665ae33e09b75a252ad2f303", func := "loop.example/g00851/laws.FnExactRowPoll", spec := "fnExactRowPoll", unfollowed := true, recurses := true, apart := false }
def FnExactRowPollSaid : Prop := fnExactRowPollRow.holds Try.pinned (OpenSpec.ofChange fnExactRowPollSpec)

/-- ITS FALSE NEIGHBOUR: 'it returns false'. Refute it at one input. -/
def fnExactRowPollWrong : ChangeSpec := { name := "fnExactRowPoll", fn := fun _ => fun
  | [d] => { results := [.lit (.bool false)], args := [d] }
  | _ => none }
def FnExactRowPollWrongFalsely : Prop := fnExactRowPollRow.holds Try.pinned (OpenSpec.ofChange fnExactRowPollWrong)

/-- 'laws.FnExactReadRow': WHATEVER THE INPUT: true; the input reads as it did. -/
def fnExactReadRowSpec : ChangeSpec := { name := "fnExactReadRow", fn := fun _ => fun
  | [d] => { results := [.lit (.bool true)], args := [d] }
  | _ => none }
def fnExactReadRowRow : OpenClaim := { program := "ytpfkfppooeikeaa", sum := "63dd97df736a583865679a26a0a5a595de351af4665ae33e09b75a252ad2f303", func := "loop.example/g00851/laws.FnExactReadRow", spec := "fnExactReadRow", unfollowed := true, recurses := true, apart := false }
def FnExactReadRowSaid : Prop := fnExactReadRowRow.holds Try.pinned (OpenSpec.ofChange fnExactReadRowSpec)

/-- ITS FALSE NEIGHBOUR: 'it returns false'. Refute it at one input. -/
def fnExactReadRowWrong : ChangeSpec := { name := "fnExactReadRow", fn := fun _ => fun
  | [d] => { results := [.lit (.bool false)], args := [d] }
  | _ => none }
def FnExactReadRowWrongFalsely : Prop := fnExactReadRowRow.holds Try.pinned (OpenSpec.ofChange fnExactReadRowWrong)

/-- 'laws.FnExactFeedOk': WHATEVER THE INPUT: true; the input reads as it did. -/
def fnExactFeedOkSpec : ChangeSpec := { name := "fnExactFeedOk", fn := fun _ => fun
  | [d] => { results := [.lit (.bool true)], args := [d] }
  | _ => none }
def fnExactFeedOkRow : OpenClaim := { program := "ytpfkfppooeikeaa", sum := "63dd97df736a583865679a26a0a5a595de351af4665ae33e09b75a252ad2f303", func := "loop.example/g00851/laws.FnExactFeedOk", spec := "fnExactFeedOk", apart := false }
def FnExactFeedOkSaid : Prop := fnExactFeedOkRow.holds Try.pinned (OpenSpec.ofChange fnExactFeedOkSpec)

/-- ITS FALSE NEIGHBOUR: 'it returns false'. Refute it at one input. -/
def fnExactFeedOkWrong : ChangeSpec := { name := "fnExactFeedOk", fn := fun _ => fun
  | [d] => { results := [.lit (.bool false)], args := [d] }
  | _ => none }
def FnExactFeedOkWrongFalsely : Prop := fnExactFeedOkRow.holds Try.pinned (OpenSpec.ofChange fnExactFeedOkWrong)

/-- 'laws.FnExactValueRow': WHATEVER THE INPUT: true; the input reads as it did. -/
def fnExactValueRowSpec : ChangeSpec := { name := "fnExactValueRow", fn := fun _ => fun
  | [d] => { results := [.lit (.bool true)], args := [d] }
  | _ => none }
def fnExactValueRowRow : OpenClaim := { program := "ytpfkfppooeikeaa", sum := "63dd97df736a583865679a26a0a5a595de351af4665ae33e09b75a252ad2f303", func := "loop.example/g00851/laws.FnExactValueRow", spec := "fnExactValueRow", unfollowed := true, recurses := true, apart := false }
def FnExactValueRowSaid : Prop := fnExactValueRowRow.holds Try.pinned (OpenSpec.ofChange fnExactValueRowSpec)

/-- ITS FALSE NEIGHBOUR: 'it returns false'. Refute it at one input. -/
def fnExactValueRowWrong : ChangeSpec := { name := "fnExactValueRow", fn := fun _ => fun
  | [d] => { results := [.lit (.bool false)], args := [d] }
  | _ => none }
def FnExactValueRowWrongFalsely : Prop := fnExactValueRowRow.holds Try.pinned (OpenSpec.ofChange fnExactValueRowWrong)

/-- 'laws.FnExactAckRow': WHATEVER THE INPUT: true; the input reads as it did. -/
def fnExactAckRowSpec : ChangeSpec := { name := "fnExactAckRow", fn := fun _ => fun
  | [d] => { results := [.lit (.bool true)], args := [d] }
  | _ => none }
def fnExactAckRowRow : OpenClaim := { program := "ytpfkfppooeikeaa", sum := "63dd97df736a583865679a26a0a5a595de351af4665ae33e09b75a252ad2f303", func := "loop.example/g00851/laws.FnExactAckRow", spec := "fnExactAckRow", unfollowed := true, recurses := true, apart := false }
def FnExactAckRowSaid : Prop := fnExactAckRowRow.holds Try.pinned (OpenSpec.ofChange fnExactAckRowSpec)

/-- ITS FALSE NEIGHBOUR: 'it returns false'. Refute it at one input. -/
def fnExactAckRowWrong : ChangeSpec := { name := "fnExactAckRow", fn := fun _ => fun
  | [d] => { results := [.lit (.bool false)], args := [d] }
  | _ => none }
def FnExactAckRowWrongFalsely : Prop := fnExactAckRowRow.holds Try.pinned (OpenSpec.ofChange fnExactAckRowWrong)

/-- 'laws.FnFedNext': WHATEVER THE INPUT: true; the input reads as it did. -/
def fnFedNextSpec : ChangeSpec := { name := "fnFedNext", fn := fun _ => fun
  | [d] => { results := [.lit (.bool true)], args := [d] }
  | _ => none }
def fnFedNextRow : OpenClaim := { program := "ytpfkfppooeikeaa", sum := "63dd97df736a583865679a26a0a5a595de351af4665ae33e09b75a252ad2f303", func := "loop.example/g00851/laws.FnFedNext", spec := "fnFedNext", unfollowed := true, recurses := true, apart := false }
def FnFedNextSaid : Prop := fnFedNextRow.holds Try.pinned (OpenSpec.ofChange fnFedNextSpec)

/-- ITS FALSE NEIGHBOUR: 'it returns false'. Refute it at one input. -/
def fnFedNextWrong : ChangeSpec := { name := "fnFedNext", fn := fun _ => fun
  | [d] => { results := [.lit (.bool false)], args := [d] }
  | _ => none }
def FnFedNextWrongFalsely : Prop := fnFedNextRow.holds Try.pinned (OpenSpec.ofChange fnFedNextWrong)

/-- 'laws.FnExactRowRead': WHATEVER THE INPUT: true; the input reads as it did. -/
def fnExactRowReadSpec : ChangeSpec := { name := "fnExactRowRead", fn := fun _ => fun
  | [d] => { results := [.lit (.bool true)], args := [d] }
  | _ => none }
def fnExactRowReadRow : OpenClaim := { program := "ytpfkfppooeikeaa", sum := "63dd97df736a583865679a26a0a5a595de351af4665ae33e09b75a252ad2f303", func := "loop.example/g00851/laws.FnExactRowRead", spec := "fnExactRowRead", unfollowed := true, recurses := true, apart := false }
def FnExactRowReadSaid : Prop := fnExactRowReadRow.holds Try.pinned (OpenSpec.ofChange fnExactRowReadSpec)

/-- ITS FALSE NEIGHBOUR: 'it returns false'. Refute it at one input. -/
def fnExactRowReadWrong : ChangeSpec := { name := "fnExactRowRead", fn := fun _ => fun
  | [d] => { results := [.lit (.bool false)], args := [d] }
  | _ => none }
def FnExactRowReadWrongFalsely : Prop := fnExactRowReadRow.holds Try.pinned (OpenSpec.ofChange fnExactRowReadWrong)

/-- 'laws.FnExactRowValue': WHATEVER THE INPUT: true; the input reads as it did. -/
def fnExactRowValueSpec : ChangeSpec := { name := "fnExactRowValue", fn := fun _ => fun
  | [d] => { results := [.lit (.bool true)], args := [d] }
  | _ => none }
def fnExactRowValueRow : OpenClaim := { program := "ytpfkfppooeikeaa", sum := "63dd97df736a583865679a26a0a5a595de351af4665ae33e09b75a252ad2f303", func := "loop.example/g00851/laws.FnExactRowValue", spec := "fnExactRowValue", unfollowed := true, recurses := true, apart := false }
def FnExactRowValueSaid : Prop := fnExactRowValueRow.holds Try.pinned (OpenSpec.ofChange fnExactRowValueSpec)

/-- ITS FALSE NEIGHBOUR: 'it returns false'. Refute it at one input. -/
def fnExactRowValueWrong : ChangeSpec := { name := "fnExactRowValue", fn := fun _ => fun
  | [d] => { results := [.lit (.bool false)], args := [d] }
  | _ => none }
def FnExactRowValueWrongFalsely : Prop := fnExactRowValueRow.holds Try.pinned (OpenSpec.ofChange fnExactRowValueWrong)

/-- 'laws.FnExactRowAck': WHATEVER THE INPUT: true; the input reads as it did. -/
def fnExactRowAckSpec : ChangeSpec := { name := "fnExactRowAck", fn := fun _ => fun
  | [d] => { results := [.lit (.bool true)], args := [d] }
  | _ => none }
def fnExactRowAckRow : OpenClaim := { program := "ytpfkfppooeikeaa", sum := "63dd97df736a583865679a26a0a5a595de351af4665ae33e09b75a252ad2f303", func := "loop.example/g00851/laws.FnExactRowAck", spec := "fnExactRowAck", unfollowed := true, recurses := true, apart := false }
def FnExactRowAckSaid : Prop := fnExactRowAckRow.holds Try.pinned (OpenSpec.ofChange fnExactRowAckSpec)

/-- ITS FALSE NEIGHBOUR: 'it returns false'. Refute it at one input. -/
def fnExactRowAckWrong : ChangeSpec := { name := "fnExactRowAck", fn := fun _ => fun
  | [d] => { results := [.lit (.bool false)], args := [d] }
  | _ => none }
def FnExactRowAckWrongFalsely : Prop := fnExactRowAckRow.holds Try.pinned (OpenSpec.ofChange fnExactRowAckWrong)

/-- 'laws.FnExactAskRow': WHATEVER THE INPUT: true; the input reads as it did. -/
def fnExactAskRowSpec : ChangeSpec := { name := "fnExactAskRow", fn := fun _ => fun
  | [d] => { results := [.lit (.bool true)], args := [d] }
  | _ => none }
def fnExactAskRowRow : OpenClaim := { program := "ytpfkfppooeikeaa", sum := "63dd97df736a583865679a26a0a5a595de351af4665ae33e09b75a252ad2f303", func := "loop.example/g00851/laws.FnExactAskRow", spec := "fnExactAskRow", unfollowed := true, recurses := true, apart := false }
def FnExactAskRowSaid : Prop := fnExactAskRowRow.holds Try.pinned (OpenSpec.ofChange fnExactAskRowSpec)

/-- ITS FALSE NEIGHBOUR: 'it returns false'. Refute it at one input. -/
def fnExactAskRowWrong : ChangeSpec := { name := "fnExactAskRow", fn := fun _ => fun
  | [d] => { results := [.lit (.bool false)], args := [d] }
  | _ => none }
def FnExactAskRowWrongFalsely : Prop := fnExactAskRowRow.holds Try.pinned (OpenSpec.ofChange fnExactAskRowWrong)

/-- 'laws.FnExactRowAsk': WHATEVER THE INPUT: true; the input reads as it did. -/
def fnExactRowAskSpec : ChangeSpec := { name := "fnExactRowAsk", fn := fun _ => fun
  | [d] => { results := [.lit (.bool true)], args := [d] }
  | _ => none }
def fnExactRowAskRow : OpenClaim := { program := "ytpfkfppooeikeaa", sum := "63dd97df736a583865679a26a0a5a595de351af4665ae33e09b75a252ad2f303", func := "loop.example/g00851/laws.FnExactRowAsk", spec := "fnExactRowAsk", unfollowed := true, recurses := true, apart := false }
def FnExactRowAskSaid : Prop := fnExactRowAskRow.holds Try.pinned (OpenSpec.ofChange fnExactRowAskSpec)

/-- ITS FALSE NEIGHBOUR: 'it returns false'. Refute it at one input. -/
def fnExactRowAskWrong : ChangeSpec := { name := "fnExactRowAsk", fn := fun _ => fun
  | [d] => { results := [.lit (.bool false)], args := [d] }
  | _ => none }
def FnExactRowAskWrongFalsely : Prop := fnExactRowAskRow.holds Try.pinned (OpenSpec.ofChange fnExactRowAskWrong)

/-- 'laws.FnExactJobsRow': WHATEVER THE INPUT: true; the input reads as it did. -/
def fnExactJobsRowSpec : ChangeSpec := { name := "fnExactJobsRow", fn := fun _ => fun
  | [d] => { results := [.lit (.bool true)], args := [d] }
  | _ => none }
def fnExactJobsRowRow : OpenClaim := { program := "ytpfkfppooeikeaa", sum := "63dd97df736a583865679a26a0a5a595de351af4665ae33e09b75a252ad2f303", func := "loop.example/g00851/laws.FnExactJobsRow", spec := "fnExactJobsRow", unfollowed := true, recurses := true, apart := false }
def FnExactJobsRowSaid : Prop := fnExactJobsRowRow.holds Try.pinned (OpenSpec.ofChange fnExactJobsRowSpec)

/-- ITS FALSE NEIGHBOUR: 'it returns false'. Refute it at one input. -/
def fnExactJobsRowWrong : ChangeSpec := { name := "fnExactJobsRow", fn := fun _ => fun
  | [d] => { results := [.lit (.bool false)], args := [d] }
  | _ => none }
def FnExactJobsRowWrongFalsely : Prop := fnExactJobsRowRow.holds Try.pinned (OpenSpec.ofChange fnExactJobsRowWrong)

/-- 'laws.FnExactRowJobs': WHATEVER THE INPUT: true; the input reads as it did. -/
def fnExactRowJobsSpec : ChangeSpec := { name := "fnExactRowJobs", fn := fun _ => fun
  | [d] => { results := [.lit (.bool true)], args := [d] }
  | _ => none }
def fnExactRowJobsRow : OpenClaim := { program := "ytpfkfppooeikeaa", sum := "63dd97df736a583865679a26a0a5a595de351af4665ae33e09b75a252ad2f303", func := "loop.example/g00851/laws.FnExactRowJobs", spec := "fnExactRowJobs", unfollowed := true, recurses := true, apart := false }
def FnExactRowJobsSaid : Prop := fnExactRowJobsRow.holds Try.pinned (OpenSpec.ofChange fnExactRowJobsSpec)

/-- ITS FALSE NEIGHBOUR: 'it returns false'. Refute it at one input. -/
def fnExactRowJobsWrong : ChangeSpec := { name := "fnExactRowJobs", fn := fun _ => fun
  | [d] => { results := [.lit (.bool false)], args := [d] }
  | _ => none }
def FnExactRowJobsWrongFalsely : Prop := fnExactRowJobsRow.holds Try.pinned (OpenSpec.ofChange fnExactRowJobsWrong)

/-- 'laws.FnLettersBack': WHATEVER THE INPUT: true; the input reads as it did. -/
def fnLettersBackSpec : ChangeSpec := { name := "fnLettersBack", fn := fun _ => fun
  | [d] => { results := [.lit (.bool true)], args := [d] }
  | _ => none }
def fnLettersBackRow : OpenClaim := { program := "ytpfkfppooeikeaa", sum := "63dd97df736a583865679a26a0a5a595de351af4665ae33e09b75a252ad2f303", func := "loop.example/g00851/laws.FnLettersBack", spec := "fnLettersBack", unfollowed := true, recurses := true, apart := false }
def FnLettersBackSaid : Prop := fnLettersBackRow.holds Try.pinned (OpenSpec.ofChange fnLettersBackSpec)

/-- ITS FALSE NEIGHBOUR: 'it returns false'. Refute it at one input. -/
def fnLettersBackWrong : ChangeSpec := { name := "fnLettersBack", fn := fun _ => fun
  | [d] => { results := [.lit (.bool false)], args := [d] }
  | _ => none }
def FnLettersBackWrongFalsely : Prop := fnLettersBackRow.holds Try.pinned (OpenSpec.ofChange fnLettersBackWrong)

/-- 'laws.FnOneKind': WHATEVER THE INPUT: true; the input reads as it did. -/
def fnOneKindSpec : ChangeSpec := { name := "fnOneKind", fn := fun _ => fun
  | [d] => { results := [.lit (.bool true)], args := [d] }
  | _ => none }
def fnOneKindRow : OpenClaim := { program := "ytpfkfppooeikeaa", sum := "63dd97df736a583865679a26a0a5a595de351af4665ae33e09b75a252ad2f303", func := "loop.example/g00851/laws.FnOneKind", spec := "fnOneKind", unfollowed := true, recurses := true, apart := false }
def FnOneKindSaid : Prop := fnOneKindRow.holds Try.pinned (OpenSpec.ofChange fnOneKindSpec)

/-- ITS FALSE NEIGHBOUR: 'it returns false'. Refute it at one input. -/
def fnOneKindWrong : ChangeSpec := { name := "fnOneKind", fn := fun _ => fun
  | [d] => { results := [.lit (.bool false)], args := [d] }
  | _ => none }
def FnOneKindWrongFalsely : Prop := fnOneKindRow.holds Try.pinned (OpenSpec.ofChange fnOneKindWrong)

/-- 'laws.FnExactFeedRow': WHATEVER THE INPUT: true; the input reads as it did. -/
def fnExactFeedRowSpec : ChangeSpec := { name := "fnExactFeedRow", fn := fun _ => fun
  | [d] => { results := [.lit (.bool true)], args := [d] }
  | _ => none }
def fnExactFeedRowRow : OpenClaim := { program := "ytpfkfppooeikeaa", sum := "63dd97df736a583865679a26a0a5a595de351af4665ae33e09b75a252ad2f303", func := "loop.example/g00851/laws.FnExactFeedRow", spec := "fnExactFeedRow", unfollowed := true, recurses := true, apart := false }
def FnExactFeedRowSaid : Prop := fnExactFeedRowRow.holds Try.pinned (OpenSpec.ofChange fnExactFeedRowSpec)

/-- ITS FALSE NEIGHBOUR: 'it returns false'. Refute it at one input. -/
def fnExactFeedRowWrong : ChangeSpec := { name := "fnExactFeedRow", fn := fun _ => fun
  | [d] => { results := [.lit (.bool false)], args := [d] }
  | _ => none }
def FnExactFeedRowWrongFalsely : Prop := fnExactFeedRowRow.holds Try.pinned (OpenSpec.ofChange fnExactFeedRowWrong)

/-- 'laws.FnExactRowFeed': WHATEVER THE INPUT: true; the input reads as it did. -/
def fnExactRowFeedSpec : ChangeSpec := { name := "fnExactRowFeed", fn := fun _ => fun
  | [d] => { results := [.lit (.bool true)], args := [d] }
  | _ => none }
def fnExactRowFeedRow : OpenClaim := { program := "ytpfkfppooeikeaa", sum := "63dd97df736a583865679a26a0a5a595de351af4665ae33e09b75a252ad2f303", func := "loop.example/g00851/laws.FnExactRowFeed", spec := "fnExactRowFeed", unfollowed := true, recurses := true, apart := false }
def FnExactRowFeedSaid : Prop := fnExactRowFeedRow.holds Try.pinned (OpenSpec.ofChange fnExactRowFeedSpec)

/-- ITS FALSE NEIGHBOUR: 'it returns false'. Refute it at one input. -/
def fnExactRowFeedWrong : ChangeSpec := { name := "fnExactRowFeed", fn := fun _ => fun
  | [d] => { results := [.lit (.bool false)], args := [d] }
  | _ => none }
def FnExactRowFeedWrongFalsely : Prop := fnExactRowFeedRow.holds Try.pinned (OpenSpec.ofChange fnExactRowFeedWrong)

/- THE SECOND FORM. 'bulk': how many values and letters a reading holds, each counted each time it is reached (what is shared counts as often as it is met; a slice's spare places count too). A statement '..UptoSaid' is the law's where the arguments, and the package variables that the reading takes, are together of bulk at most 1048576: NARROWER than '..Said'. Prove '..Said' where nothing that the law and all that it calls make is longer than what came in: it says more and counts as full. Else prove '..UptoSaid'. A law counts once. -/
mutual
def uptoBulk {H : Type} : DataW H → Nat
  | .lit (.string bytes) => bytes.length + 1
  | .lit _ => 1
  | .nil => 1
  | .ptr d => uptoBulk d + 1
  | .slice elems spare => uptoBulkAll elems + uptoBulkAll spare + 1
  | .agg parts => uptoBulkAll parts + 1
  | .iface _ d => uptoBulk d + 1
  | .map entries => uptoBulkEntries entries + 1
  | .held _ => 1
def uptoBulkAll {H : Type} : List (DataW H) → Nat
  | [] => 0
  | d :: r => uptoBulk d + uptoBulkAll r
def uptoBulkEntries {H : Type} : List (Lit × DataW H) → Nat
  | [] => 0
  | x :: r => uptoBulkEntry x + uptoBulkEntries r
def uptoBulkEntry {H : Type} : Lit × DataW H → Nat
  | (.string bytes, d) => bytes.length + uptoBulk d + 1
  | (_, d) => uptoBulk d + 1
 end
def uptoSmall : (H : Type) → List (DataW H) → Bool := fun _ ds => decide (uptoBulkAll ds ≤ 1048576)
def OpenSpec.upto (s : _root_.Go.ChangeSpec) : _root_.Go.OpenSpec := { _root_.Go.OpenSpec.ofChange s with cond := some uptoSmall }

/-- 'laws.FnExactFetchRow', WHERE WHAT IT READS IS OF BULK AT MOST 1048576: true; the input reads as it did. -/
def fnExactFetchRowUptoRow : OpenClaim := { program := "ytpfkfppooeikeaa", sum := "63dd97df736a583865679a26a0a5a595de351af4665ae33e09b75a252ad2f303", func := "loop.example/g00851/laws.FnExactFetchRow", spec := "fnExactFetchRow", unfollowed := true, recurses := true, apart := false, narrowed := true }
def FnExactFetchRowUptoSaid : Prop := fnExactFetchRowUptoRow.holds Try.pinned (OpenSpec.upto fnExactFetchRowSpec)

/-- 'laws.FnExactTrimRow', WHERE WHAT IT READS IS OF BULK AT MOST 1048576: true; the input reads as it did. -/
def fnExactTrimRowUptoRow : OpenClaim := { program := "ytpfkfppooeikeaa", sum := "63dd97df736a583865679a26a0a5a595de351af4665ae33e09b75a252ad2f303", func := "loop.example/g00851/laws.FnExactTrimRow", spec := "fnExactTrimRow", unfollowed := true, recurses := true, apart := false, narrowed := true }
def FnExactTrimRowUptoSaid : Prop := fnExactTrimRowUptoRow.holds Try.pinned (OpenSpec.upto fnExactTrimRowSpec)

/-- 'laws.FnExactPollRow', WHERE WHAT IT READS IS OF BULK AT MOST 1048576: true; the input reads as it did. -/
def fnExactPollRowUptoRow : OpenClaim := { program := "ytpfkfppooeikeaa", sum := "63dd97df736a583865679a26a0a5a595de351af4665ae33e09b75a252ad2f303", func := "loop.example/g00851/laws.FnExactPollRow", spec := "fnExactPollRow", unfollowed := true, recurses := true, apart := false, narrowed := true }
def FnExactPollRowUptoSaid : Prop := fnExactPollRowUptoRow.holds Try.pinned (OpenSpec.upto fnExactPollRowSpec)

/-- 'laws.FnExactRowFetch', WHERE WHAT IT READS IS OF BULK AT MOST 1048576: true; the input reads as it did. -/
def fnExactRowFetchUptoRow : OpenClaim := { program := "ytpfkfppooeikeaa", sum := "63dd97df736a583865679a26a0a5a595de351af4665ae33e09b75a252ad2f303", func := "loop.example/g00851/laws.FnExactRowFetch", spec := "fnExactRowFetch", unfollowed := true, recurses := true, apart := false, narrowed := true }
def FnExactRowFetchUptoSaid : Prop := fnExactRowFetchUptoRow.holds Try.pinned (OpenSpec.upto fnExactRowFetchSpec)

/-- 'laws.FnExactRowTrim', WHERE WHAT IT READS IS OF BULK AT MOST 1048576: true; the input reads as it did. -/
def fnExactRowTrimUptoRow : OpenClaim := { program := "ytpfkfppooeikeaa", sum := "63dd97df736a583865679a26a0a5a595de351af4665ae33e09b75a252ad2f303", func := "loop.example/g00851/laws.FnExactRowTrim", spec := "fnExactRowTrim", unfollowed := true, recurses := true, apart := false, narrowed := true }
def FnExactRowTrimUptoSaid : Prop := fnExactRowTrimUptoRow.holds Try.pinned (OpenSpec.upto fnExactRowTrimSpec)

/-- 'laws.FnExactRowPoll', WHERE WHAT IT READS IS OF BULK AT MOST 1048576: true; the input reads as it did. -/
def fnExactRowPollUptoRow : OpenClaim := { program := "ytpfkfppooeikeaa", sum := "63dd97df736a583865679a26a0a5a595de351af4665ae33e09b75a252ad2f303", func := "loop.example/g00851/laws.FnExactRowPoll", spec := "fnExactRowPoll", unfollowed := true, recurses := true, apart := false, narrowed := true }
def FnExactRowPollUptoSaid : Prop := fnExactRowPollUptoRow.holds Try.pinned (OpenSpec.upto fnExactRowPollSpec)

/-- 'laws.FnExactReadRow', WHERE WHAT IT READS IS OF BULK AT MOST 1048576: true; the input reads as it did. -/
def fnExactReadRowUptoRow : OpenClaim := { program := "ytpfkfppooeikeaa", sum := "63dd97df736a583865679a26a0a5a595de351af4665ae33e09b75a252ad2f303", func := "loop.example/g00851/laws.FnExactReadRow", spec := "fnExactReadRow", unfollowed := true, recurses := true, apart := false, narrowed := true }
def FnExactReadRowUptoSaid : Prop := fnExactReadRowUptoRow.holds Try.pinned (OpenSpec.upto fnExactReadRowSpec)

/-- 'laws.FnExactFeedOk', WHERE WHAT IT READS IS OF BULK AT MOST 1048576: true; the input reads as it did. -/
def fnExactFeedOkUptoRow : OpenClaim := { program := "ytpfkfppooeikeaa", sum := "63dd97df736a583865679a26a0a5a595de351af4665ae33e09b75a252ad2f303", func := "loop.example/g00851/laws.FnExactFeedOk", spec := "fnExactFeedOk", apart := false, narrowed := true }
def FnExactFeedOkUptoSaid : Prop := fnExactFeedOkUptoRow.holds Try.pinned (OpenSpec.upto fnExactFeedOkSpec)

/-- 'laws.FnExactValueRow', WHERE WHAT IT READS IS OF BULK AT MOST 1048576: true; the input reads as it did. -/
def fnExactValueRowUptoRow : OpenClaim := { program := "ytpfkfppooeikeaa", sum := "63dd97df736a583865679a26a0a5a595de351af4665ae33e09b75a252ad2f303", func := "loop.example/g00851/laws.FnExactValueRow", spec := "fnExactValueRow", unfollowed := true, recurses := true, apart := false, narrowed := true }
def FnExactValueRowUptoSaid : Prop := fnExactValueRowUptoRow.holds Try.pinned (OpenSpec.upto fnExactValueRowSpec)

/-- 'laws.FnExactAckRow', WHERE WHAT IT READS IS OF BULK AT MOST 1048576: true; the input reads as it did. -/
def fnExactAckRowUptoRow : OpenClaim := { program := "ytpfkfppooeikeaa", sum := "63dd97df736a583865679a26a0a5a595de351af4665ae33e09b75a252ad2f303", func := "loop.example/g00851/laws.FnExactAckRow", spec := "fnExactAckRow", unfollowed := true, recurses := true, apart := false, narrowed := true }
def FnExactAckRowUptoSaid : Prop := fnExactAckRowUptoRow.holds Try.pinned (OpenSpec.upto fnExactAckRowSpec)

/-- 'laws.FnFedNext', WHERE WHAT IT READS IS OF BULK AT MOST 1048576: true; the input reads as it did. -/
def fnFedNextUptoRow : OpenClaim := { program := "ytpfkfppooeikeaa", sum := "63dd97df736a583865679a26a0a5a595de351af4665ae33e09b75a252ad2f303", func := "loop.example/g00851/laws.FnFedNext", spec := "fnFedNext", unfollowed := true, recurses := true, apart := false, narrowed := true }
def FnFedNextUptoSaid : Prop := fnFedNextUptoRow.holds Try.pinned (OpenSpec.upto fnFedNextSpec)

/-- 'laws.FnExactRowRead', WHERE WHAT IT READS IS OF BULK AT MOST 1048576: true; the input reads as it did. -/
def fnExactRowReadUptoRow : OpenClaim := { program := "ytpfkfppooeikeaa", sum := "63dd97df736a583865679a26a0a5a595de351af4665ae33e09b75a252ad2f303", func := "loop.example/g00851/laws.FnExactRowRead", spec := "fnExactRowRead", unfollowed := true, recurses := true, apart := false, narrowed := true }
def FnExactRowReadUptoSaid : Prop := fnExactRowReadUptoRow.holds Try.pinned (OpenSpec.upto fnExactRowReadSpec)

/-- 'laws.FnExactRowValue', WHERE WHAT IT READS IS OF BULK AT MOST 1048576: true; the input reads as it did. -/
def fnExactRowValueUptoRow : OpenClaim := { program := "ytpfkfppooeikeaa", sum := "63dd97df736a583865679a26a0a5a595de351af4665ae33e09b75a252ad2f303", func := "loop.example/g00851/laws.FnExactRowValue", spec := "fnExactRowValue", unfollowed := true, recurses := true, apart := false, narrowed := true }
def FnExactRowValueUptoSaid : Prop := fnExactRowValueUptoRow.holds Try.pinned (OpenSpec.upto fnExactRowValueSpec)

/-- 'laws.FnExactRowAck', WHERE WHAT IT READS IS OF BULK AT MOST 1048576: true; the input reads as it did. -/
def fnExactRowAckUptoRow : OpenClaim := { program := "ytpfkfppooeikeaa", sum := "63dd97df736a583865679a26a0a5a595de351af4665ae33e09b75a252ad2f303", func := "loop.example/g00851/laws.FnExactRowAck", spec := "fnExactRowAck", unfollowed := true, recurses := true, apart := false, narrowed := true }
def FnExactRowAckUptoSaid : Prop := fnExactRowAckUptoRow.holds Try.pinned (OpenSpec.upto fnExactRowAckSpec)

/-- 'laws.FnExactAskRow', WHERE WHAT IT READS IS OF BULK AT MOST 1048576: true; the input reads as it did. -/
def fnExactAskRowUptoRow : OpenClaim := { program := "ytpfkfppooeikeaa", sum := "63dd97df736a583865679a26a0a5a595de351af4665ae33e09b75a252ad2f303", func := "loop.example/g00851/laws.FnExactAskRow", spec := "fnExactAskRow", unfollowed := true, recurses := true, apart := false, narrowed := true }
def FnExactAskRowUptoSaid : Prop := fnExactAskRowUptoRow.holds Try.pinned (OpenSpec.upto fnExactAskRowSpec)

/-- 'laws.FnExactRowAsk', WHERE WHAT IT READS IS OF BULK AT MOST 1048576: true; the input reads as it did. -/
def fnExactRowAskUptoRow : OpenClaim := { program := "ytpfkfppooeikeaa", sum := "63dd97df736a583865679a26a0a5a595de351af4665ae33e09b75a252ad2f303", func := "loop.example/g00851/laws.FnExactRowAsk", spec := "fnExactRowAsk", unfollowed := true, recurses := true, apart := false, narrowed := true }
def FnExactRowAskUptoSaid : Prop := fnExactRowAskUptoRow.holds Try.pinned (OpenSpec.upto fnExactRowAskSpec)

/-- 'laws.FnExactJobsRow', WHERE WHAT IT READS IS OF BULK AT MOST 1048576: true; the input reads as it did. -/
def fnExactJobsRowUptoRow : OpenClaim := { program := "ytpfkfppooeikeaa", sum := "63dd97df736a583865679a26a0a5a595de351af4665ae33e09b75a252ad2f303", func := "loop.example/g00851/laws.FnExactJobsRow", spec := "fnExactJobsRow", unfollowed := true, recurses := true, apart := false, narrowed := true }
def FnExactJobsRowUptoSaid : Prop := fnExactJobsRowUptoRow.holds Try.pinned (OpenSpec.upto fnExactJobsRowSpec)

/-- 'laws.FnExactRowJobs', WHERE WHAT IT READS IS OF BULK AT MOST 1048576: true; the input reads as it did. -/
def fnExactRowJobsUptoRow : OpenClaim := { program := "ytpfkfppooeikeaa", sum := "63dd97df736a583865679a26a0a5a595de351af4665ae33e09b75a252ad2f303", func := "loop.example/g00851/laws.FnExactRowJobs", spec := "fnExactRowJobs", unfollowed := true, recurses := true, apart := false, narrowed := true }
def FnExactRowJobsUptoSaid : Prop := fnExactRowJobsUptoRow.holds Try.pinned (OpenSpec.upto fnExactRowJobsSpec)

/-- 'laws.FnLettersBack', WHERE WHAT IT READS IS OF BULK AT MOST 1048576: true; the input reads as it did. -/
def fnLettersBackUptoRow : OpenClaim := { program := "ytpfkfppooeikeaa", sum := "63dd97df736a583865679a26a0a5a595de351af4665ae33e09b75a252ad2f303", func := "loop.example/g00851/laws.FnLettersBack", spec := "fnLettersBack", unfollowed := true, recurses := true, apart := false, narrowed := true }
def FnLettersBackUptoSaid : Prop := fnLettersBackUptoRow.holds Try.pinned (OpenSpec.upto fnLettersBackSpec)

/-- 'laws.FnOneKind', WHERE WHAT IT READS IS OF BULK AT MOST 1048576: true; the input reads as it did. -/
def fnOneKindUptoRow : OpenClaim := { program := "ytpfkfppooeikeaa", sum := "63dd97df736a583865679a26a0a5a595de351af4665ae33e09b75a252ad2f303", func := "loop.example/g00851/laws.FnOneKind", spec := "fnOneKind", unfollowed := true, recurses := true, apart := false, narrowed := true }
def FnOneKindUptoSaid : Prop := fnOneKindUptoRow.holds Try.pinned (OpenSpec.upto fnOneKindSpec)

/-- 'laws.FnExactFeedRow', WHERE WHAT IT READS IS OF BULK AT MOST 1048576: true; the input reads as it did. -/
def fnExactFeedRowUptoRow : OpenClaim := { program := "ytpfkfppooeikeaa", sum := "63dd97df736a583865679a26a0a5a595de351af4665ae33e09b75a252ad2f303", func := "loop.example/g00851/laws.FnExactFeedRow", spec := "fnExactFeedRow", unfollowed := true, recurses := true, apart := false, narrowed := true }
def FnExactFeedRowUptoSaid : Prop := fnExactFeedRowUptoRow.holds Try.pinned (OpenSpec.upto fnExactFeedRowSpec)

/-- 'laws.FnExactRowFeed', WHERE WHAT IT READS IS OF BULK AT MOST 1048576: true; the input reads as it did. -/
def fnExactRowFeedUptoRow : OpenClaim := { program := "ytpfkfppooeikeaa", sum := "63dd97df736a583865679a26a0a5a595de351af4665ae33e09b75a252ad2f303", func := "loop.example/g00851/laws.FnExactRowFeed", spec := "fnExactRowFeed", unfollowed := true, recurses := true, apart := false, narrowed := true }
def FnExactRowFeedUptoSaid : Prop := fnExactRowFeedUptoRow.holds Try.pinned (OpenSpec.upto fnExactRowFeedSpec)

end Rows
end Go.Proofs.Ytpfkfppooeikeaa
