/- Three facts about the whole program that every statement's card asks for, shown once: no function of it may run on entry, what its interfaces lift, and how it was made. No condition. -/
import Derived.Test.YtpfkfppooeikeaaRows
import Derived.JoinedOf
import Derived.WalkKit
import Derived.ProofKit
namespace Go.Proofs.Ytpfkfppooeikeaa
open Go

theorem words_space : ∀ (a r : List Char), a.all (· != ' ') = true → wordsSigns (a ++ ' ' :: r) = a :: wordsSigns r
  | [], r, _ => rfl
  | c :: a, r, h => by
    simp only [List.all_cons, Bool.and_eq_true, bne_iff_ne, ne_eq] at h
    have hw := words_space a r h.2
    show wordsSigns (c :: (a ++ ' ' :: r)) = _
    rw [wordsSigns]
    · rw [hw]
    · exact h.1
theorem behind {s : List Char} {X : List (List Char)} (hs : isSumSigns s = true) : behindMainWord (['h', 'a', 'r', 'n', 'e', 's', 's'] :: s :: ['c', 'u', 't'] :: X) = ['c', 'u', 't'] :: X := by
  simp [behindMainWord, hs]
theorem strip_cut (X : List (List Char)) : stripLifts liftWords (['c', 'u', 't'] :: X) = ([], ['c', 'u', 't'] :: X) := by kernel_rfl
theorem make_of {P : Program} {s : List Char} {X : List (List Char)} (h : wordsSigns P.initOrder.toList = ['h', 'a', 'r', 'n', 'e', 's', 's'] :: s :: ['c', 'u', 't'] :: X) (hs : isSumSigns s = true) : P.make = some .cut := by
  unfold Program.make
  rw [h, behind hs]
  kernel_rfl
theorem lifts_of {P : Program} {s : List Char} {X : List (List Char)} (h : wordsSigns P.initOrder.toList = ['h', 'a', 'r', 'n', 'e', 's', 's'] :: s :: ['c', 'u', 't'] :: X) (hs : isSumSigns s = true) : P.liftsFinal = false := by
  unfold Program.liftsFinal Program.headLifts
  rw [h, behind hs, strip_cut]
  kernel_rfl
theorem enter_of {P : Program} {s : List Char} {X : List (List Char)} (h : wordsSigns P.initOrder.toList = ['h', 'a', 'r', 'n', 'e', 's', 's'] :: s :: ['c', 'u', 't'] :: X) (hs : isSumSigns s = true) (h1 : P.laysLater = false) (h2 : P.bearsReflect = false) (h3 : P.doorFits [] = true) : P.mayEnter = true := by
  unfold Program.mayEnter
  rw [h, behind hs]
  simp only [strip_cut, h1, h2, h3]
  kernel_rfl
set_option maxRecDepth 100000 in
/-- the head's words: the string's end is of no account -/
theorem head_chars : ∃ r : List Char, Try.pinned.checked.prog.initOrder.toList = ['h', 'a', 'r', 'n', 'e', 's', 's'] ++ ' ' :: (['1', '3', 'd', '3', '6', 'e', 'e', '9', '1', '8', 'a', 'c', 'a', '8', 'd', '2', 'b', '1', 'b', '9', 'e', 'a', '9', 'a', '5', '8', '1', '3', '9', 'd', '6', '8', '5', '6', 'd', 'c', '0', 'a', '3', 'd', 'b', '2', '4', '3', 'a', 'f', '0', '6', 'a', '0', 'e', '0', '2', 'b', '9', 'd', '1', '3', '3', 'e', '0', 'f', '1', '0'] ++ ' ' :: (['c', 'u', 't'] ++ ' ' :: r)) := by
  have h : Try.pinned.checked.prog.initOrder = "harness 13d36ee918aca8d2b1b9ea9a58139d6856dc0a3db243af06a0e02b9d133e0f10 cut at loop.example/g00851/laws.FnExactFetchRow loop.example/g00851/laws.FnExactTrimRow loop.example/g00851/laws.FnExactPollRow loop.example/g00851/laws.FnExactRowFetch loop.example/g00851/laws.FnExactRowTrim loop.example/g00851/laws.FnExactRowPoll loop.example/g00851/laws.FnExactReadRow loop.example/g00851/laws.FnExactFeedOk loop.example/g00851/laws.FnExactValueRow loop.example/g00851/laws.FnExactAckRow loop.example/g00851/laws.FnFedNext loop.example/g00851/laws.FnExactRowRead loop.example/g00851/laws.FnExactRowValue loop.example/g00851/laws.FnExactRowAck loop.example/g00851/laws.FnExactAskRow loop.example/g00851/laws.FnExactRowAsk loop.example/g00851/laws.FnExactJobsRow loop.example/g00851/laws.FnExactRowJobs loop.example/g00851/laws.FnLettersBack loop.example/g00851/laws.FnOneKind loop.example/g00851/laws.FnExactFeedRow loop.example/g00851/laws.FnExactRowFeed" := by kernel_rfl
  rw [h]
  exact ⟨_, String.toList_ofList.trans rfl⟩
theorem head_words : ∃ X : List (List Char), wordsSigns Try.pinned.checked.prog.initOrder.toList = ['h', 'a', 'r', 'n', 'e', 's', 's'] :: ['1', '3', 'd', '3', '6', 'e', 'e', '9', '1', '8', 'a', 'c', 'a', '8', 'd', '2', 'b', '1', 'b', '9', 'e', 'a', '9', 'a', '5', '8', '1', '3', '9', 'd', '6', '8', '5', '6', 'd', 'c', '0', 'a', '3', 'd', 'b', '2', '4', '3', 'a', 'f', '0', '6', 'a', '0', 'e', '0', '2', 'b', '9', 'd', '1', '3', '3', 'e', '0', 'f', '1', '0'] :: ['c', 'u', 't'] :: X := by
  obtain ⟨r, h⟩ := head_chars
  refine ⟨wordsSigns r, ?_⟩
  rw [h, words_space _ _ (by decide), words_space _ _ (by decide), words_space _ _ (by decide)]
theorem fact_enter : Try.pinned.checked.prog.mayEnter = true := by
  obtain ⟨X, h⟩ := head_words
  exact enter_of h (by kernel_rfl) (by kernel_rfl) (by kernel_rfl) (by kernel_rfl)
theorem fact_lifts : (Rows.fnExactFetchRowRow.lifted == Try.pinned.checked.prog.liftsFinal) = true := by
  obtain ⟨X, h⟩ := head_words
  rw [lifts_of h (by kernel_rfl)]
  kernel_rfl
theorem fact_make : (Try.pinned.checked.prog.make == some Rows.fnExactFetchRowRow.make) = true := by
  obtain ⟨X, h⟩ := head_words
  rw [make_of h (by kernel_rfl)]
  kernel_rfl
end Go.Proofs.Ytpfkfppooeikeaa
