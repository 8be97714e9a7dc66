/- Calls of functions that hand their cells on, whatever they hold. No program in it. -/
import Derived.Test.YtphaggopgdbojaaGreatReVF
import Derived.Test.YtphaggopgdbojaaGreatReVD
namespace Go.Proofs.YtphaggopgdbojaaGreat
open Go.ChangeShapes Go.WideShapes Go.ChangeAt Go.RowKit
set_option linter.unusedVariables false
def pickO {α : Type} : List Nat → List α → Option (List α)
  | [], _ => some []
  | i :: r, l => match nthO i l with
    | some x => match pickO r l with
      | some y => some (x :: y)
      | none => none
    | none => none
section
variable {P : Program} {X : Cx} {S : St} {ρ : Rho} {a : Act} {w : World} {TT : List (Nat × TI)}
/-- what a function hands back are the cells pk of its argument -/
def Hands (P : Program) (f : FuncId) (n : Nat) (pk : List Nat) : Prop := ∀ us : List Value, us.length = n → Pure P f [(true, us.map C.v)] [(true, pk.map fun i => RC.v (us.getD i undef))]
theorem pick_rep : ∀ {pk : List Nat} {l l' : List AC} {us : List Value}, pickO pk l = some l' → L2 (RepC ρ) l us → L2 (RepC ρ) l' (pk.map fun i => us.getD i undef)
  | [], l, l', us, h, hu => by cases h; trivial
  | i :: pk, l, l', us, h, hu => by
    unfold pickO at h
    split at h
    · rename_i x hx
      split at h
      · rename_i y hy
        cases h
        obtain ⟨u, h1, h2⟩ := hu.get (nthO_eq hx)
        refine ⟨?_, pick_rep hy hu⟩
        show RepC ρ x (us.getD i undef)
        rw [List.getD_eq_getElem?_getD, h1]; exact h2
      · cases h
    · cases h
theorem vs_rd {H : Nat → Option Obj} : ∀ {us : List Value}, (∀ u ∈ us, u.oneCell' = true) → L2 (RdX H) (us.map C.v) us
  | [], _ => trivial
  | u :: us, h => ⟨⟨0, rfl, h u (by simp)⟩, vs_rd fun v hv => h v (by simp [hv])⟩
theorem ow_vs {H : Nat → Option Obj} : ∀ {xs us : List Value} {F : List Nat}, OwRs H w (xs.map RC.v) us F → us = xs ∧ F = []
  | [], [], F, h => ⟨rfl, h⟩
  | x :: xs, u :: us, F, h => by
    obtain ⟨F1, F2, h1, h2, rfl⟩ := h
    obtain ⟨rfl, rfl⟩ := ow_vs h2
    obtain ⟨⟨rfl, _⟩, rfl⟩ := h1
    exact ⟨rfl, rfl⟩
  | [], _ :: _, _, h => h.elim
  | _ :: _, [], _, h => h.elim
theorem callv_wp {o : Oper} {f : FuncId} {x : Operand} {tys : Array TypeId} {n d : Nat} {pk : List Nat} {l l' : List AC} {K : Act → World → Prop} {Q : Exit → Act → World → Prop}
    (hF : chkF P f = true) (ho : o.op = .call ⟨.value (.func f), #[x], tys⟩) (hd : o.dst = some d) (hc : Hands P f n pk) (hx : opv S.T x = some (.p true l)) (hl : lenB l n = true) (hp : pickO pk l = some l') (hN : okD X d = true) (hs : Sim X ρ S a w)
    (h : ∀ v w', Below w.heap.size w w' → Sim X ρ ⟨(d, .p true l') :: S.T, S.B, S.R, S.M⟩ (a.put (some d) v) w' → K (a.put (some d) v) w') : Oper.wp P o a w K Q := by
  obtain ⟨od, oop, oty, opos, oaf, og⟩ := o
  simp only at ho hd
  subst ho; subst hd
  unfold Oper.wp
  rw [run_call hF a.eval #[x] tys (some d) oty opos oaf og rfl]
  obtain ⟨us, hu, h1⟩ := opv_rep hs hx
  have hul : us.length = n := by rw [h1.len, lenB_eq hl]
  have := hc us hul (fun _ => none) w [a.eval x] (by intro b o h; cases h) ⟨by show Pc _ (true, us.map C.v) (a.eval x); exact ⟨us, hu, vs_rd h1.ones⟩, trivial⟩
  rw [Oper.upon_enter]
  have e : #[x].map a.eval = [a.eval x].toArray := by simp
  rw [e]
  refine this.mono fun en w' hpost => ?_
  obtain ⟨us', F, rfl, k1, k2, k3, k4⟩ := hpost
  have key : ∃ vs : List Value, us' = [mkV true vs] ∧ vs = pk.map fun i => us.getD i undef := by
    match us', k1 with
    | [u], ⟨F1, F2, ⟨vs, e1, _, e3⟩, _, _⟩ =>
      have hm : (pk.map fun i => RC.v (us.getD i undef)) = (pk.map fun i => us.getD i undef).map RC.v := by rw [List.map_map]; rfl
      simp only at e1 e3
      rw [hm] at e3
      exact ⟨vs, by rw [e1], (ow_vs e3).1⟩
  obtain ⟨vs, rfl, rfl⟩ := key
  exact h _ w' k4 ((hs.next k4).put hN ⟨_, rfl, pick_rep hp h1⟩)
variable {Q : Exit → Act → World → Prop} {ops : Array Oper} {rest : List Oper}
theorem evl_callv {T : List (Nat × AV)} {B : List (Nat × Nat × List AC)} {R : RL} {M : List (Nat × (Int → Option Value))} {f : FuncId} {x : Operand} {tys : Array TypeId} {n d ty : Nat} {pk : List Nat} {l l' : List AC} {pos : String} {af : Array Edge}
    (hF : chkF P f = true) (hc : Hands P f n pk) (hx : opv T x = some (.p true l)) (hl : lenB l n = true) (hp : pickO pk l = some l') (hN : okD X d = true) (h : EvL P X ops rest Q ⟨(d, .p true l') :: T, B, R, M⟩) :
    EvL P X ops (⟨some d, .call ⟨.value (.func f), #[x], tys⟩, ty, pos, af, none⟩ :: rest) Q ⟨T, B, R, M⟩ :=
  fun ρ a w hs => wpList_plain rfl fun K hK => callv_wp hF rfl rfl hc hx hl hp hN hs fun v w' _ hs' => hK _ _ (h ρ _ w' hs')
end
end Go.Proofs.YtphaggopgdbojaaGreat
