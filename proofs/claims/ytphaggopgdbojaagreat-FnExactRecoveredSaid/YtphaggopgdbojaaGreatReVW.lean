/- Maps of one's own that hold structs: looked up, taken out. No program in it. -/
import Derived.Test.YtphaggopgdbojaaGreatReVM
namespace Go.Proofs.YtphaggopgdbojaaGreat
open Go.ChangeShapes Go.WideShapes Go.ChangeAt Go.RowKit
set_option linter.unusedVariables false
section
variable {P : Program} {X : Cx} {S : St} {ρ : Rho} {a : Act} {w : World} {TT : List (Nat × TI)}
def vcs (us : List Value) : List AC := us.map fun u => .c (.v u)
theorem vcs_rep {us : List Value} (h : ∀ u ∈ us, u.oneCell' = true) : L2 (RepC ρ) (vcs us) us := by
  induction us with
  | nil => trivial
  | cons u us ih => exact ⟨⟨0, rfl, h u (by simp)⟩, ih fun x hx => h x (by simp [hx])⟩
theorem q_lookup_s {t kt et b : Nat} {x k : Operand} {kk : Int} {f : Int → Option Value} {i : TI} {us zs : List Value} (hm : mapB P t kt et = true) (hT : TTOk P TT) (hi : lk TT et = some i) (hz : i.zero.map cv = zs) (hg : i.sh.agg = true) (hx : opv S.T x = some (.p false [.mp b])) (hb : lk S.M b = some f) (hk : opv S.T k = some (.p false [.c (.v (.int .i64 kk))]))
    (hr : (f kk).getD (.agg zs.toArray) = .agg us.toArray) (h1 : ∀ u ∈ us, u.oneCell' = true) : Quiet P X S (.lookup t x k false) (.p true (vcs us)) := by
  intro ρ a w hs
  obtain ⟨hu, kd, hku⟩ := mapB_ok hm
  have hp : a.eval x = .map (some (ρ.box b)) := (opv_rep hs hx).1
  have hq : a.eval k = .int .i64 kk := rd_v (opv_rep hs hk).1
  have hM : MapI w (ρ.box b) f := hs.hp.M _ (lk_mem hb)
  refine ⟨.agg us.toArray, ⟨us, rfl, vcs_rep h1⟩, fun d ty pos af g w' hw => ?_⟩
  have hM' := hM.below hw hM.lt
  have hzv : ∀ W : World, (zeroValue et).run P W = .ok (.agg zs.toArray) W := fun W => by
    have := (hT et i hi).zeroValue (w := W)
    rw [hg, hz] at this
    exact this
  have := hM'.run_lookup (P := P) hu hku _ hzv kk
  rw [hr] at this
  simp only [execOp, hp, hq, Sem.run_bind, this, Result.andThen_ok, Sem.run_pure]
theorem q_lookup_ok {t kt et b : Nat} {x k : Operand} {kk : Int} {f : Int → Option Value} {i : TI} {us zs : List Value} {r : Bool} (hm : mapB P t kt et = true) (hT : TTOk P TT) (hi : lk TT et = some i) (hz : i.zero.map cv = zs) (hg : i.sh.agg = true) (hx : opv S.T x = some (.p false [.mp b])) (hb : lk S.M b = some f) (hk : opv S.T k = some (.p false [.c (.v (.int .i64 kk))]))
    (hr : (f kk).getD (.agg zs.toArray) = .agg us.toArray) (hr2 : (f kk).isSome = r) (h1 : ∀ u ∈ us, u.oneCell' = true) : Quiet P X S (.lookup t x k true) (.tup [(true, vcs us), (false, [.c (.v (.bool r))])]) := by
  intro ρ a w hs
  obtain ⟨hu, kd, hku⟩ := mapB_ok hm
  have hp : a.eval x = .map (some (ρ.box b)) := (opv_rep hs hx).1
  have hq : a.eval k = .int .i64 kk := rd_v (opv_rep hs hk).1
  have hM : MapI w (ρ.box b) f := hs.hp.M _ (lk_mem hb)
  refine ⟨.tuple #[.agg us.toArray, .bool r], ⟨[.agg us.toArray, .bool r], rfl, ⟨us, rfl, vcs_rep h1⟩, ⟨⟨0, rfl, rfl⟩, trivial⟩, trivial⟩, fun d ty pos af g w' hw => ?_⟩
  have hM' := hM.below hw hM.lt
  have hzv : ∀ W : World, (zeroValue et).run P W = .ok (.agg zs.toArray) W := fun W => by
    have := (hT et i hi).zeroValue (w := W)
    rw [hg, hz] at this
    exact this
  have := hM'.run_lookup_ok (P := P) hu hku _ hzv kk
  rw [hr, hr2] at this
  simp only [execOp, hp, hq, Sem.run_bind, this, Result.andThen_ok, Sem.run_pure]
/-- delete(m, k) -/
theorem e_mapdel {T : List (Nat × AV)} {B : List (Nat × Nat × List AC)} {R : RL} {M M' : List (Nat × (Int → Option Value))} {t kt et b kt2 : Nat} {x k : Operand} {kk : Int} {f f' : Int → Option Value} {tys : Array TypeId} (hm : mapB P t kt et = true) (hty : tys = #[t, kt2]) (hx : opv T x = some (.p false [.mp b])) (hb : lk M b = some f) (hk : opv T k = some (.p false [.c (.v (.int .i64 kk))]))
    (hf : ∀ q, f' q = if q = kk then none else f q) (hM : updM b f' M = some M') : Eff P X ⟨T, B, R, M⟩ none (.call ⟨.builtin .delete, #[x, k], tys⟩) ⟨T, B, R, M'⟩ false := by
  intro ρ a w hs
  subst hty
  obtain ⟨hu, kd, hku⟩ := mapB_ok hm
  have hp : a.eval x = .map (some (ρ.box b)) := (opv_rep hs hx).1
  have hq : a.eval k = .int .i64 kk := rd_v (opv_rep hs hk).1
  have hMI : MapI w (ρ.box b) f := hs.hp.M _ (lk_mem hb)
  obtain ⟨w', h3, h4, h5⟩ := hMI.run_delete (P := P) hu hku 0 kt2 kk
  have h4' : MapI w' (ρ.box b) f' := by rw [show f' = fun q => if q = kk then none else f q from funext hf]; exact h4
  have h3' : ∀ ty : TypeId, (Builtin.delete_ #[t, kt2] ty #[.map (some (ρ.box b)), .int .i64 kk]).run P w = .ok (.tuple #[]) w' := fun ty => h3
  exact ⟨ρ, .value (.tuple #[]), .tuple #[], w', fun ty _ _ _ => by simp [execOp, resolve, invoke, builtin, hp, hq, h3' ty], .inl rfl, hs.wmap hM h4' h5, by intro h; cases h⟩
end
end Go.Proofs.YtphaggopgdbojaaGreat
