/- Three facts about the whole program that every statement's card asks for, shown once: no function of it may run on entry, what its interfaces lift, and how it was made. No condition. -/
import Derived.Test.YtahkjonokeifmaaGreatRows
import Derived.JoinedOf
import Derived.WalkKit
import Derived.ProofKit
namespace Go.Proofs.YtahkjonokeifmaaGreat
open Go
def signs (l : List Nat) : List Char := l.map Char.ofNat
def sp : Char := Char.ofNat 32
def wHarness : List Char := signs [104, 97, 114, 110, 101, 115, 115]
def wSum : List Char := signs [53, 102, 50, 50, 57, 101, 102, 48, 100, 56, 100, 48, 54, 51, 51, 100, 49, 102, 100, 56, 51, 53, 48, 99, 57, 57, 51, 97, 97, 101, 56, 54, 48, 52, 52, 57, 100, 99, 97, 54, 51, 54, 56, 101, 52, 99, 102, 50, 50, 55, 100, 56, 48, 55, 100, 50, 97, 53, 99, 54, 100, 49, 57, 53]
def wCut : List Char := signs [99, 117, 116]
theorem words_space : ∀ (a r : List Char), a.all (· != sp) = true → wordsSigns (a ++ sp :: r) = a :: wordsSigns r
 | [], r, _ => rfl
 | c :: a, r, h => by
  simp only [List.all_cons, Bool.and_eq_true, bne_iff_ne, ne_eq] at h
  have hw := words_space a r h.2
  show wordsSigns (c :: (a ++ sp :: r)) = _
  rw [wordsSigns]
  ·rw [hw]
  ·exact h.1
theorem behind {s : List Char} {X : List (List Char)} (hs : isSumSigns s = true) : behindMainWord (wHarness :: s :: wCut :: X) = wCut :: X := by
 have h1 : (wHarness == "harness".toList) = true := by kernel_rfl
 simp only [behindMainWord, hs, h1, Bool.true_or, Bool.and_self, if_true]
theorem strip_cut (X : List (List Char)) : stripLifts liftWords (wCut :: X) = ([], wCut :: X) := by kernel_rfl
theorem make_of {P : Program} {s : List Char} {X : List (List Char)} (h : wordsSigns P.initOrder.toList = wHarness :: s :: wCut :: X) (hs : isSumSigns s = true) : P.make = some .cut := by
 unfold Program.make
 rw [h, behind hs]
 kernel_rfl
theorem lifts_of {P : Program} {s : List Char} {X : List (List Char)} (h : wordsSigns P.initOrder.toList = wHarness :: s :: wCut :: X) (hs : isSumSigns s = true) : P.liftsFinal = false := by
 unfold Program.liftsFinal Program.headLifts
 rw [h, behind hs, strip_cut]
 kernel_rfl
theorem enter_of {P : Program} {s : List Char} {X : List (List Char)} (h : wordsSigns P.initOrder.toList = wHarness :: s :: wCut :: X) (hs : isSumSigns s = true) (h1 : P.laysLater = false) (h2 : P.bearsReflect = false) (h3 : P.doorFits [] = true) : P.mayEnter = true := by
 unfold Program.mayEnter
 rw [h, behind hs]
 simp only [strip_cut, h1, h2, h3]
 kernel_rfl
set_option maxRecDepth 100000 in
theorem head_chars : ∃ r : List Char, Tryz.pinned.checked.prog.initOrder.toList = wHarness ++ sp :: (wSum ++ sp :: (wCut ++ sp :: r)) := by
 have h : Tryz.pinned.checked.prog.initOrder = "harness 5f229ef0d8d0633d1fd8350c993aae860449dca6368e4cf227d807d2a5c6d195 cut at loop.example/g00851/laws.FnRecoveredAgain" := by kernel_rfl
 rw [h]
 exact ⟨_, String.toList_ofList.trans rfl⟩
theorem head_words : ∃ X : List (List Char), wordsSigns Tryz.pinned.checked.prog.initOrder.toList = wHarness :: wSum :: wCut :: X := by
 obtain ⟨r, h⟩ := head_chars
 refine ⟨wordsSigns r, ?_⟩
 rw [h, words_space _ _ (by decide), words_space _ _ (by decide), words_space _ _ (by decide)]
theorem fact_enter : Tryz.pinned.checked.prog.mayEnter = true := by
 obtain ⟨X, h⟩ := head_words
 exact enter_of h (by kernel_rfl) (by kernel_rfl) (by kernel_rfl) (by kernel_rfl)
theorem fact_lifts : (Rows.fnRecoveredAgainRow.lifted == Tryz.pinned.checked.prog.liftsFinal) = true := by
 obtain ⟨X, h⟩ := head_words
 rw [lifts_of h (by kernel_rfl)]
 kernel_rfl
theorem fact_make : (Tryz.pinned.checked.prog.make == some Rows.fnRecoveredAgainRow.make) = true := by
 obtain ⟨X, h⟩ := head_words
 rw [make_of h (by kernel_rfl)]
 kernel_rfl
end Go.Proofs.YtahkjonokeifmaaGreat
