/- A law that hands back true: its call, as the statements ask for it. No program in it. -/
import Derived.Test.YtphaggopgdbojaaGreatRiVA
import Derived.Test.YtphaggopgdbojaaGreatRiVO
namespace Go.Proofs.YtphaggopgdbojaaGreat
open Go.ChangeShapes Go.WideShapes Go.ChangeAt Go.RowKit
theorem Pure.law {P : Program} {f : FuncId} {args : List (Bool × List C)} (h : Pure P f args (bR true)) (w : World) (vs : List Value) (hv : L2 (Pc fun b => w.heap[b]?) args vs) : Calls P f vs.toArray w fun e w' => e = .returned (.bool true) ∧ Below w.heap.size w w' :=
  (h _ w vs (fun _ _ h => h) hv).mono fun e w' ⟨us, F, he, ho, _, _, hb⟩ => by
    match us, ho with
    | [u], ⟨F1, F2, ⟨us', e1, e2, e3⟩, _, _⟩ =>
      have e2' := e2 rfl
      match us', e3, e2' with
      | [x], h3, _ =>
        obtain ⟨G1, G2, ⟨⟨h4, _⟩, _⟩, _, _⟩ := h3
        exact ⟨by rw [he, e1]; exact congrArg Ending.returned h4, hb⟩
theorem RdL.x {w : World} {d : Nat} : ∀ {cs : List C} {us : List Value}, RdL w d cs us → L2 (RdX fun b => w.heap[b]?) cs us
  | [], [], _ => trivial
  | _ :: _, _ :: _, h => ⟨⟨d, h.1⟩, RdL.x h.2⟩
  | [], _ :: _, h => h.elim
  | _ :: _, [], h => h.elim
theorem rdx {H : Nat → Option Obj} {d : Nat} {c : C} {u : Value} (h : RdC H d c u) : RdX H c u := ⟨d, h⟩
end Go.Proofs.YtphaggopgdbojaaGreat
