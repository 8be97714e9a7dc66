/- Three facts about the whole program that every statement's card asks for, shown once: no function of it may run on entry, what its interfaces lift, and how it was made. No condition. -/
import Derived.Test.YtahkjonokeifmaaRows
import Derived.JoinedOf
import Derived.WalkKit
import Derived.ProofKit
namespace Go.Proofs.Ytahkjonokeifmaa
open Go
def signs (l : List Nat) : List Char := l.map Char.ofNat
def sp : Char := Char.ofNat 32
def wHarness : List Char := signs [104, 97, 114, 110, 101, 115, 115]
def wSum : List Char := signs [99, 55, 56, 52, 48, 48, 98, 52, 55, 98, 51, 54, 53, 53, 54, 54, 51, 56, 56, 98, 98, 51, 56, 52, 100, 49, 102, 56, 98, 49, 54, 56, 56, 53, 57, 99, 57, 55, 54, 52, 54, 97, 57, 102, 53, 101, 55, 49, 97, 99, 50, 101, 52, 57, 54, 52, 55, 98, 51, 57, 55, 49, 101, 48]
def wCut : List Char := signs [99, 117, 116]
theorem words_space : ∀ (a r : List Char), a.all (· != sp) = true → wordsSigns (a ++ sp :: r) = a :: wordsSigns r
 | [], r, _ => rfl
 | c :: a, r, h => by
  simp only [List.all_cons, Bool.and_eq_true, bne_iff_ne, ne_eq] at h
  have hw := words_space a r h.2
  show wordsSigns (c :: (a ++ sp :: r)) = _
  rw [wordsSigns]
  ·rw [hw]
  ·exact h.1
theorem behind {s : List Char} {X : List (List Char)} (hs : isSumSigns s = true) : behindMainWord (wHarness :: s :: wCut :: X) = wCut :: X := by
 have h1 : (wHarness == "harness".toList) = true := by kernel_rfl
 simp only [behindMainWord, hs, h1, Bool.true_or, Bool.and_self, if_true]
theorem strip_cut (X : List (List Char)) : stripLifts liftWords (wCut :: X) = ([], wCut :: X) := by kernel_rfl
theorem make_of {P : Program} {s : List Char} {X : List (List Char)} (h : wordsSigns P.initOrder.toList = wHarness :: s :: wCut :: X) (hs : isSumSigns s = true) : P.make = some .cut := by
 unfold Program.make
 rw [h, behind hs]
 kernel_rfl
theorem lifts_of {P : Program} {s : List Char} {X : List (List Char)} (h : wordsSigns P.initOrder.toList = wHarness :: s :: wCut :: X) (hs : isSumSigns s = true) : P.liftsFinal = false := by
 unfold Program.liftsFinal Program.headLifts
 rw [h, behind hs, strip_cut]
 kernel_rfl
theorem enter_of {P : Program} {s : List Char} {X : List (List Char)} (h : wordsSigns P.initOrder.toList = wHarness :: s :: wCut :: X) (hs : isSumSigns s = true) (h1 : P.laysLater = false) (h2 : P.bearsReflect = false) (h3 : P.doorFits [] = true) : P.mayEnter = true := by
 unfold Program.mayEnter
 rw [h, behind hs]
 simp only [strip_cut, h1, h2, h3]
 kernel_rfl
set_option maxRecDepth 100000 in
theorem head_chars : ∃ r : List Char, Try.pinned.checked.prog.initOrder.toList = wHarness ++ sp :: (wSum ++ sp :: (wCut ++ sp :: r)) := by
 have h : Try.pinned.checked.prog.initOrder = "harness c78400b47b365566388bb384d1f8b168859c97646a9f5e71ac2e49647b3971e0 cut at loop.example/g00851/laws.FnKept" := by kernel_rfl
 rw [h]
 exact ⟨_, String.toList_ofList.trans rfl⟩
theorem head_words : ∃ X : List (List Char), wordsSigns Try.pinned.checked.prog.initOrder.toList = wHarness :: wSum :: wCut :: X := by
 obtain ⟨r, h⟩ := head_chars
 refine ⟨wordsSigns r, ?_⟩
 rw [h, words_space _ _ (by decide), words_space _ _ (by decide), words_space _ _ (by decide)]
theorem fact_enter : Try.pinned.checked.prog.mayEnter = true := by
 obtain ⟨X, h⟩ := head_words
 exact enter_of h (by kernel_rfl) (by kernel_rfl) (by kernel_rfl) (by kernel_rfl)
theorem fact_lifts : (Rows.fnKeptRow.lifted == Try.pinned.checked.prog.liftsFinal) = true := by
 obtain ⟨X, h⟩ := head_words
 rw [lifts_of h (by kernel_rfl)]
 kernel_rfl
theorem fact_make : (Try.pinned.checked.prog.make == some Rows.fnKeptRow.make) = true := by
 obtain ⟨X, h⟩ := head_words
 rw [make_of h (by kernel_rfl)]
 kernel_rfl
end Go.Proofs.Ytahkjonokeifmaa
