/- Drawn regions over what is only read. No program in it. -/
import Derived.Test.YtphaggopgdbojaaGreatFaVD
namespace Go.Proofs.YtphaggopgdbojaaGreat
open Go.ChangeShapes Go.WideShapes Go.ChangeAt Go.RowKit
set_option linter.unusedVariables false
/-- all that is only read lies there -/
def HL (X : Cx) (W : World) : Prop := ∀ b o, X.H b = some o → W.heap[b]? = some o
def QuietH (P : Program) (X : Cx) (S : St) (op : Op) (av : AV) : Prop :=
  ∀ ρ a w, Sim X ρ S a w → ∃ v, RepV ρ av v ∧ ∀ (d : Option Tmp) (ty : TypeId) (pos : String) (af : Array Edge) (g : Option (Nat × Bool)) (w' : World), HL X w' → (execOp a.eval ⟨d, op, ty, pos, af, g⟩).run P w' = .ok (.value v) w'
section
variable {P : Program} {X : Cx} {S S' S1 : St} {Q : Act → World → Prop} {ops : Array Oper} {T : List (Nat × AV)} {B : List (Nat × Nat × List AC)} {R : List (Nat × Nat × Nat × List (List C))} {M : List (Nat × (Int → Option Value))} {fuel : Nat} {listed : Array Bool} {d : Tmp} {op : Op} {ty : TypeId} {pos : String} {af : Array Edge} {g : Option (Nat × Bool)} {av : AV} {TT : List (Nat × TI)}
theorem Sim.hl {ρ : Rho} {a : Act} {w : World} (h : Sim X ρ S a w) : HL X w := fun b o hb => h.hp.H b o (by rw [h.df.2]; exact hb)
theorem QuietW.h (h : QuietW P X S op av) : QuietH P X S op av := fun ρ a w hs => let ⟨v, h1, h2⟩ := h ρ a w hs; ⟨v, h1, fun d ty pos af g w' _ => h2 d ty pos af g w'⟩
end
end Go.Proofs.YtphaggopgdbojaaGreat
