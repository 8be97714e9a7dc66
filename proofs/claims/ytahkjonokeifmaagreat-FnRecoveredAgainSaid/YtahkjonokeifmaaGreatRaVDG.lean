/- A slice of one's own that is only read from here on. No program in it. -/
import Derived.Test.YtahkjonokeifmaaGreatRaVY
import Derived.Test.YtahkjonokeifmaaGreatRaVDB
namespace Go.Proofs.YtahkjonokeifmaaGreat
open Go.ChangeShapes Go.WideShapes Go.ChangeAt Go.RowKit
set_option linter.unusedVariables false
def frsC (r : Nat) (y : C) : AC → AC
 | .rt k => match Nat.beq k r with
  | true => .c y
  | false => .rt k
 | x => x
def frsV (r : Nat) (y : C) : AV → AV
 | .p g l => .p g (l.map (frsC r y))
 | .tup _ => .no
 | x => x
def frsT (r : Nat) (y : C) : List (Nat × AV) → List (Nat × AV)
 | [] => []
 | (t, v) :: T => (t, frsV r y v) :: frsT r y T
theorem frsT_lk {r : Nat} {y : C} : ∀ {T : List (Nat × AV)} {t : Nat} {av : AV}, lk (frsT r y T) t = some av → ∃ av0, lk T t = some av0 ∧ av = frsV r y av0
  | [], t, av, h => by cases h
  | (k, v) :: T, t, av, h => by
    unfold frsT lk at h
    unfold lk
    split at h
    · rename_i e; rw [if_pos e]; cases h; exact ⟨v, rfl, rfl⟩
    · rename_i e; rw [if_neg e]; exact frsT_lk h
theorem RepC.mono' {ρ : Rho} {H' : Nat → Option Obj} (hm : ∀ g o, ρ.H g = some o → H' g = some o) {x : AC} {u : Value} (hx : RepC ρ x u) : RepC { ρ with H := H' } x u := by
 cases x with
 | c x => exact RdX.mono hm hx
 | pe l =>
  obtain ⟨g, o, e, hc⟩ := hx
  exact ⟨g, o, e, fun j c hj => let ⟨y, k1, k2⟩ := hc j c hj; ⟨y, rcell_mono hm k1, RdX.mono hm k2⟩⟩
 | _ => exact hx
theorem L2.mono' {ρ : Rho} {H' : Nat → Option Obj} (hm : ∀ g o, ρ.H g = some o → H' g = some o) : ∀ {l : List AC} {us : List Value}, L2 (RepC ρ) l us → L2 (RepC { ρ with H := H' }) l us :=
 fun h => L2.mono (fun _ _ hx => RepC.mono' hm hx) h
section
variable {P : Program} {X : Cx} {Q : Exit → Act → World → Prop}
theorem OwRs.bool {H H0 : Nat → Option Obj} {w : World} {b : Bool} : ∀ {us : List Value} {F : List Nat}, OwPs H w [(false, [.v (.bool b)])] us F → OwPs H0 w [(false, [.v (.bool b)])] us F
 | [u], F, ⟨F1, F2, ⟨vs, m1, m2, m3⟩, m4, m5⟩ => by
  match us2 : vs, m3 with
  | [x], ⟨G1, G2, g1, g2, g3⟩ => exact ⟨F1, F2, ⟨[x], m1, m2, ⟨G1, G2, g1, g2, g3⟩⟩, m4, m5⟩
 | [], _, h => h
theorem ret_lawH {fn : Func} {N g : Nat} {S : St} {TT : List (Nat × TI)} {K : List (Nat × Value)} {w0 : World} {H H0 : Nat → Option Obj} {ps : List (Bool × List AC)} {b : Bool} (hg : w0.heap.size ≤ g) (hT : TTOk P TT) (h1 : retPs TT S fn.results.toList = some ps) (h2 : toRCs S.R ps = some [(false, [.v (.bool b)])]) (he : b = true) :
  EvE ⟨N, w0, [g], H, K, []⟩ .ret (bodyPost P fn (PurePost H0 [(false, [.v (.bool true)])] w0)) S := by
 subst he
 intro ρ a w hs
 obtain ⟨k1, e, k2, us, F, k3, k4, k5⟩ := ret_law (P := P) (fn := fn) (H := H) (N := N) (K := K) hg hT h1 h2 rfl ρ a w hs
 exact ⟨k1, e, k2, us, F, k3, OwRs.bool k4, k5⟩
end
end Go.Proofs.YtahkjonokeifmaaGreat
