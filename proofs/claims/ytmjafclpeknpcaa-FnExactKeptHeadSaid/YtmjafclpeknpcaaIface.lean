/- Interface values that the program's own text makes: methods and type tests. -/
import Derived.Test.YtmjafclpeknpcaaMem
namespace Go.Proofs.Ytmjafclpeknpcaa
open Go.RowKit

/-- the function behind a method of a type with value receivers -/
def methodOf (P : Program) (t : TypeId) (s : String) : Option FuncId :=
  match P.info? t with
  | none => none
  | some i =>
    match i.methods.find? (·.name == s) with
    | none => none
    | some m =>
      match m.path.toList, m.func, P.underlying t with
      | _, _, some (.pointer _) => none
      | [], some (f, false), some _ => some f
      | _, _, _ => none

theorem run_method_direct {P : Program} {t : TypeId} {s : String} {f : FuncId} (h : methodOf P t s = some f) (fuel : Nat) (v : Value) (w : World) :
    (method (fuel + 1) t v s).run P w = .ok (f, v) w := by
  unfold methodOf at h
  cases hi : P.info? t with
  | none => rw [hi] at h; simp at h
  | some i =>
    rw [hi] at h
    simp only at h
    cases hm : i.methods.find? (·.name == s) with
    | none => rw [hm] at h; simp at h
    | some m =>
      rw [hm] at h
      simp only at h
      unfold method
      have hti : (typeInfo t).run P w = .ok i w := by simp [typeInfo, hi]
      simp only [Sem.run_bind, hti, Result.andThen_ok, hm]
      split at h
      · simp at h
      · rename_i d hptr hp hf hu
        simp only [Option.some.injEq] at h
        subst h
        simp only [hp, follow, Sem.run_pure, Result.andThen_ok, hf, receiverAt, Sem.run_bind, run_underlying hu]
        cases d <;> first | (exact (hptr _ rfl).elim) | simp [Place.get]
      · simp at h

theorem ta_yes {P : Program} {t xt : TypeId} {d : TypeDesc} (hu : P.underlying t = some d) (hd : (match d with | .interface _ => false | _ => true) = true) (v : Value) (w : World) :
    (Instr.typeAssert (.iface t v) xt t true).run P w = .ok (.tuple #[v, .bool true]) w := by
  unfold Instr.typeAssert
  simp only [Sem.run_bind, run_underlying hu, Result.andThen_ok]
  cases d <;> first | (simp at hd; done) | simp
theorem ta_no {P : Program} {t xt a : TypeId} {d : TypeDesc} {z : Value} (hu : P.underlying a = some d) (hd : (match d with | .interface _ => false | _ => true) = true) (hz : ∀ W : World, (zeroValue a).run P W = .ok z W) (h : t ≠ a) (v : Value) (w : World) :
    (Instr.typeAssert (.iface t v) xt a true).run P w = .ok (.tuple #[z, .bool false]) w := by
  unfold Instr.typeAssert
  simp only [Sem.run_bind, run_underlying hu, Result.andThen_ok]
  cases d <;> first | (simp at hd; done) | simp [h, hz]
end Go.Proofs.Ytmjafclpeknpcaa
