/- Iterators: functions that hand their elements to yield; functions that make them. No program in it. -/
import Derived.Test.YtphaggopgdbojaaGreatRiVR
import Derived.ControlIn
import Derived.RangeFuncBound
namespace Go.Proofs.YtphaggopgdbojaaGreat
open Go.ChangeShapes Go.WideShapes Go.ChangeAt Go.RowKit
set_option linter.unusedVariables false
section
variable {P : Program} {X : Cx} {S : St} {ρ : Rho} {a : Act} {w : World} {Q : Exit → Act → World → Prop} {ops : Array Oper} {r : Option Nat} {n : Nat}
/-- an address of cells that are only read -/
def PeR (H : Nat → Option Obj) (cs : List C) (u : Value) : Prop := ∃ g o, u = .pointer (some ⟨g, o, none⟩) ∧ ∀ j c, cs[j]? = some c → ∃ x, rcell H g (o + j) = some x ∧ RdX H c x
def itT : Nat → List (List C) → List (Nat × AV)
  | _, [] => []
  | k, cs :: r => (k, .p false [.pe cs]) :: itT (k + 1) r
theorem itT_rep : ∀ {css : List (List C)} {k : Nat} {us : List Value}, L2 (PeR ρ.H) css us → ∀ t av, lk (itT k css) t = some av → k ≤ t ∧ ∃ v, us[t - k]? = some v ∧ RepV ρ av v
  | [], k, us, _, t, av, ht => by cases ht
  | cs :: r, k, u :: us, h, t, av, ht => by
    unfold itT lk at ht
    split at ht
    · rename_i e
      subst e
      cases ht
      exact ⟨Nat.le_refl _, u, by simp, ⟨h.1, trivial⟩⟩
    · obtain ⟨h1, v', h2, h3⟩ := itT_rep h.2 t av ht
      refine ⟨by omega, v', ?_, h3⟩
      rw [show t - k = (t - (k + 1)) + 1 by omega]
      simpa using h2
  | _ :: _, _, [], h, _, _, _ => h.elim
theorem retH {fn : Func} {w0 : World} {H H' : Nat → Option Obj} {res : List (Bool × List RC)} (hn : noCr res = true) (h : EvE X .ret (bodyPost P fn (PurePost H' res w0)) S) : EvE X .ret (bodyPost P fn (PurePost H res w0)) S := fun ρ a w hs =>
  let ⟨h1, v, h2, us, F, h3, h4, h5⟩ := h ρ a w hs; ⟨h1, v, h2, us, F, h3, noCr_ok hn h4, h5⟩
/-! a box is only read from now on -/
def frzC (b : Nat) (cs : List C) : AC → AC
  | .pb b' o => match Nat.beq b' b with
    | true => .pe (cs.drop o)
    | false => .pb b' o
  | .fn _ _ => .no
  | x => x
def frzV (b : Nat) (cs : List C) : AV → AV
  | .p g l => .p g (l.map (frzC b cs))
  | .tup _ => .no
  | x => x
def frzT (b : Nat) (cs : List C) : List (Nat × AV) → List (Nat × AV)
  | [] => []
  | (t, v) :: r => (t, frzV b cs v) :: frzT b cs r
def frzB (b : Nat) (cs : List C) : List (Nat × Nat × List AC) → List (Nat × Nat × List AC)
  | [] => []
  | (k, ty, l) :: r => match Nat.beq k b with
    | true => frzB b cs r
    | false => (k, ty, l.map (frzC b cs)) :: frzB b cs r
theorem frzT_lk {b : Nat} {cs : List C} : ∀ {T : List (Nat × AV)} {t : Nat} {av : AV}, lk (frzT b cs T) t = some av → ∃ av0, lk T t = some av0 ∧ av = frzV b cs av0
  | [], t, av, h => by cases h
  | (k, v) :: r, t, av, h => by
    unfold frzT lk at h
    unfold lk
    split at h
    · rename_i e; rw [if_pos e]; cases h; exact ⟨v, rfl, rfl⟩
    · rename_i e; rw [if_neg e]; exact frzT_lk h
theorem frzB_mem {b : Nat} {cs : List C} : ∀ {B : List (Nat × Nat × List AC)} {x : Nat × Nat × List AC}, x ∈ frzB b cs B → x.1 ≠ b ∧ ∃ l, (x.1, x.2.1, l) ∈ B ∧ x.2.2 = l.map (frzC b cs)
  | [], x, h => by simp [frzB] at h
  | (k, ty, l) :: r, x, h => by
    unfold frzB at h
    split at h
    · obtain ⟨h1, l', h2, h3⟩ := frzB_mem h; exact ⟨h1, l', by simp [h2], h3⟩
    · rename_i hk
      rcases List.mem_cons.1 h with rfl | h
      · exact ⟨Nat.ne_of_beq_eq_false hk, l, by simp, rfl⟩
      · obtain ⟨h1, l', h2, h3⟩ := frzB_mem h; exact ⟨h1, l', by simp [h2], h3⟩
theorem frzB_sub {b : Nat} {cs : List C} {f : Nat → Nat} : ∀ {B : List (Nat × Nat × List AC)}, ((frzB b cs B).map fun x => f x.1).Sublist (B.map fun x => f x.1)
  | [] => List.Sublist.refl _
  | (k, ty, l) :: r => by
    unfold frzB
    split
    · exact frzB_sub.cons _
    · exact frzB_sub.cons_cons _
theorem ev_freeze {c : Code} {T : List (Nat × AV)} {B : List (Nat × Nat × List AC)} {R : List (Nat × Nat × Nat × List (List C))} {ty : Nat} {cs : List C} (b : Nat) (hb : lk B b = some (ty, mapCO cs))
    (h : ∀ H', (∀ g o, X.H g = some o → H' g = some o) → Ev P ⟨X.N, X.w0, X.F0, H', X.K, X.D⟩ c Q ⟨frzT b cs T, frzB b cs B, R, []⟩) : Ev P X c Q ⟨T, B, R, []⟩ := by
  intro ρ a w hs
  obtain ⟨vs, e1, r1⟩ := hs.hp.B _ (lk_mem hb)
  simp only at e1 r1
  have hbf : ρ.box b ∈ feet ρ ⟨T, B, R, []⟩ := List.mem_append_left _ (List.mem_map.2 ⟨_, lk_mem hb, rfl⟩)
  have hbH : ρ.H (ρ.box b) = none := hs.hp.dj _ hbf
  obtain ⟨H', hH'⟩ : ∃ H' : Nat → Option Obj, H' = fun g => if g = ρ.box b then some (.cells vs.toArray ty (0, 0)) else ρ.H g := ⟨_, rfl⟩
  have hm : ∀ g o, ρ.H g = some o → H' g = some o := fun g o hg => by
    rw [hH']
    simp only
    rw [if_neg (fun e => by rw [e, hbH] at hg; cases hg)]
    exact hg
  have hC : ∀ {x : AC} {u : Value}, RepC ρ x u → RepC { ρ with H := H' } (frzC b cs x) u := fun {x u} hx => by
    cases x with
    | c x => exact RdX.mono hm hx
    | pe l =>
      obtain ⟨g, o, e, hc⟩ := hx
      exact ⟨g, o, e, fun j c hj => let ⟨y, k1, k2⟩ := hc j c hj; ⟨y, rcell_mono hm k1, RdX.mono hm k2⟩⟩
    | fn f cap => exact RepC.one (ρ := ρ) (x := .fn f cap) hx
    | pb b' o =>
      show RepC { ρ with H := H' } (match Nat.beq b' b with
        | true => AC.pe (cs.drop o)
        | false => AC.pb b' o) u
      cases hbb : Nat.beq b' b with
      | false => exact hx
      | true =>
        obtain rfl := Nat.eq_of_beq_eq_true hbb
        refine ⟨ρ.box b', o, hx, fun j c hj => ?_⟩
        rw [List.getElem?_drop] at hj
        have key : ∀ {cs : List C} {j : Nat} {c : C}, cs[j]? = some c → (mapCO cs)[j]? = some (.c c) := by
          intro cs
          induction cs with
          | nil => intro j c h; simp at h
          | cons x r ih =>
            intro j c h
            cases j with
            | zero => simp only [List.getElem?_cons_zero, Option.some.injEq] at h; subst h; rfl
            | succ j => exact ih (by simpa using h)
        obtain ⟨v, hv1, hv2⟩ := r1.get (key hj)
        refine ⟨v, ?_, RdX.mono hm hv2⟩
        unfold rcell
        rw [hH']
        simp only [if_true]
        simpa using hv1
    | _ => exact hx
  have hL : ∀ {l : List AC} {us : List Value}, L2 (RepC ρ) l us → L2 (RepC { ρ with H := H' }) (l.map (frzC b cs)) us := by
    intro l
    induction l with
    | nil => intro us h; match us, h with | [], _ => trivial
    | cons x l ih => intro us h; match us, h with | u :: us, h => exact ⟨hC h.1, ih h.2⟩
  have hfe : (feet { ρ with H := H' } ⟨frzT b cs T, frzB b cs B, R, []⟩).Sublist (feet ρ ⟨T, B, R, []⟩) := by
    unfold feet
    exact (frzB_sub (f := ρ.box)).append (List.Sublist.refl _)
  have hne : ∀ g ∈ feet { ρ with H := H' } ⟨frzT b cs T, frzB b cs B, R, []⟩, g ≠ ρ.box b := by
    intro g hg e
    have hnd := hs.hp.nd
    unfold feet at hnd hg
    obtain ⟨n1, _, n3⟩ := List.nodup_append.1 hnd
    rcases List.mem_append.1 hg with hg | hg
    · obtain ⟨x, hx, rfl⟩ := List.mem_map.1 hg
      obtain ⟨k1, l, k2, _⟩ := frzB_mem hx
      have := map_inj n1 _ k2 _ (lk_mem hb) e
      exact k1 (congrArg (fun z => z.1) this)
    · exact n3 _ (List.mem_map.2 ⟨_, lk_mem hb, rfl⟩) _ hg e.symm
  refine h H' (fun g o hg => hm g o (by rw [hs.df.2]; exact hg)) { ρ with H := H' } a w ⟨⟨fun g o hg => ?_, fun x hx => ?_, hs.hp.R, by simp, hfe.nodup hs.hp.nd, fun g hg => ?_⟩, fun t av ht => ?_, ⟨hs.df.1, rfl⟩, hs.sz, hs.fr, fun g hg => hs.ft g (hfe.subset hg)⟩
  · rw [hH'] at hg
    simp only at hg
    split at hg
    · rename_i e; rw [e, e1]; exact hg
    · exact hs.hp.H g o hg
  · obtain ⟨k1, l, k2, k3⟩ := frzB_mem hx
    obtain ⟨us, k4, k5⟩ := hs.hp.B _ k2
    exact ⟨us, k4, by rw [k3]; exact hL k5⟩
  · have h9 := hs.hp.dj g (hfe.subset hg)
    show H' g = none
    rw [hH']
    simp only
    rw [if_neg (hne g hg)]
    exact h9
  · obtain ⟨av0, k1, rfl⟩ := frzT_lk ht
    obtain ⟨v, k2, k3⟩ := hs.T t av0 k1
    refine ⟨v, k2, ?_⟩
    cases av0 with
    | p g l =>
      unfold frzV
      unfold RepV RepP at k3 ⊢
      cases g
      · exact hL k3
      · obtain ⟨us, k4, k5⟩ := k3; exact ⟨us, k4, hL k5⟩
    | tup _ => trivial
    | no => trivial
    | und => exact k3
end
end Go.Proofs.YtphaggopgdbojaaGreat
