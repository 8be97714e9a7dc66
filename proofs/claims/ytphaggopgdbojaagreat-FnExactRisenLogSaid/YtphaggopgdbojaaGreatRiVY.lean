/- Drawn regions over what is only read. No program in it. -/
import Derived.Test.YtphaggopgdbojaaGreatRiVD
namespace Go.Proofs.YtphaggopgdbojaaGreat
open Go.ChangeShapes Go.WideShapes Go.ChangeAt Go.RowKit
set_option linter.unusedVariables false
/-- all that is only read lies there -/
def HL (X : Cx) (W : World) : Prop := ∀ b o, X.H b = some o → W.heap[b]? = some o
def QuietH (P : Program) (X : Cx) (S : St) (op : Op) (av : AV) : Prop :=
  ∀ ρ a w, Sim X ρ S a w → ∃ v, RepV ρ av v ∧ ∀ (d : Option Tmp) (ty : TypeId) (pos : String) (af : Array Edge) (g : Option (Nat × Bool)) (w' : World), HL X w' → (execOp a.eval ⟨d, op, ty, pos, af, g⟩).run P w' = .ok (.value v) w'
def RDh (P : Program) (X : Cx) (ops : Array Oper) (fuel : Nat) (listed : Array Bool) (S : St) (Q : Act → World → Prop) : Prop :=
  ∀ ρ a w, Sim X ρ S a w → wpAnyK P .any ops (QK Q) [] (HL X) fuel listed a w
section
variable {P : Program} {X : Cx} {S S' S1 : St} {Q : Act → World → Prop} {ops : Array Oper} {T : List (Nat × AV)} {B : List (Nat × Nat × List AC)} {R : List (Nat × Nat × Nat × List (List C))} {M : List (Nat × (Int → Option Value))} {fuel : Nat} {listed : Array Bool} {d : Tmp} {op : Op} {ty : TypeId} {pos : String} {af : Array Edge} {g : Option (Nat × Bool)} {av : AV} {TT : List (Nat × TI)}
theorem Sim.hl {ρ : Rho} {a : Act} {w : World} (h : Sim X ρ S a w) : HL X w := fun b o hb => h.hp.H b o (by rw [h.df.2]; exact hb)
theorem QuietW.h (h : QuietW P X S op av) : QuietH P X S op av := fun ρ a w hs => let ⟨v, h1, h2⟩ := h ρ a w hs; ⟨v, h1, fun d ty pos af g w' _ => h2 d ty pos af g w'⟩
theorem rdh_take (i : Nat) (hi : ops[i]? = some ⟨some d, op, ty, pos, af, g⟩) (hc : chkT ops [] listed i = true) (hg : GOk ops T g) (hq : QuietH P X ⟨T, B, R, M⟩ op av) (hN : okD X d = true)
    (h : RDh P X ops fuel (listed.setIfInBounds i true) ⟨(d, av) :: T, B, R, M⟩ Q) : RDh P X ops (fuel + 1) listed ⟨T, B, R, M⟩ Q := by
  intro ρ a w hs
  simp only [chkT, Bool.and_eq_true] at hc
  obtain ⟨v, h1, h2⟩ := hq ρ a w hs
  exact wpAnyK_first hi (Region.noSelect_spec hc.1) (fun _ _ _ h => h) (fun k hk => List.all_eq_true.1 hc.2.2.2.1 k hk) fuel listed a w (Region.free_spec hi hc.2.1) (closed_of _ hc.2.2.2.2.1) hc.2.2.2.2.2 (by simpa using hc.2.2.1)
    (.inl ⟨GOk.wanted hs hg, fun w' hw => h2 _ _ _ _ _ w' hw⟩) hs.hl (h ρ _ w (hs.put hN h1))
theorem q_loadH {t : TypeId} {x : Operand} {av : AV} {cs0 : List C} (hT : TTOk P TT) (hpe : opv S.T x = some (.p false [.pe cs0])) (h : qLoad TT S t x = some av) : QuietH P X S (.load t x) av := by
  intro ρ a w hs
  unfold qLoad at h
  split at h
  · rename_i i hi
    have ht := hT t i hi
    split at h
    · rename_i b o hx
      rw [hx] at hpe; cases hpe
    · rename_i cs hx
      split at h
      · rename_i r hr
        split at h
        case h_2 => cases h
        rename_i r2 hr2
        obtain rfl := mapOO_eq hr2
        obtain rfl := mkP_eq h
        obtain ⟨rfl, hrl⟩ := cutO_eq hr
        obtain ⟨g, o, hp, hc⟩ := (opv_rep hs hx).1
        simp only [List.drop_zero] at hrl ⊢
        have hch : ∀ (n : Nat) (cs : List C) (o : Nat), n ≤ cs.length → (∀ j c, cs[j]? = some c → ∃ x, rcell ρ.H g (o + j) = some x ∧ RdX ρ.H c x) →
            ∃ us : List Value, us.length = n ∧ L2 (RepC ρ) ((cs.take n).map AC.c) us ∧ ∀ (j : Nat) (u : Value), us[j]? = some u → rcell ρ.H g (o + j) = some u := by
          intro n
          induction n with
          | zero => exact fun cs o _ _ => ⟨[], rfl, by simp [L2], by simp⟩
          | succ n ih =>
            intro cs o hn hc
            match cs, hn with
            | c :: cs, hn =>
              obtain ⟨x, h1, h2⟩ := hc 0 c rfl
              obtain ⟨us, h3, h4, h5⟩ := ih cs (o + 1) (by simpa using hn) (fun j c hj => by
                obtain ⟨x, h6, h7⟩ := hc (j + 1) c (by simpa using hj)
                exact ⟨x, by rw [show o + 1 + j = o + (j + 1) by omega]; exact h6, h7⟩)
              refine ⟨x :: us, by simp [h3], ⟨h2, h4⟩, fun j u hj => ?_⟩
              cases j with
              | zero => simp only [List.getElem?_cons_zero, Option.some.injEq] at hj; subst hj; exact h1
              | succ j =>
                have := h5 j u (by simpa using hj)
                rw [show o + (j + 1) = o + 1 + j by omega]; exact this
        obtain ⟨us, hul, hu2, hu3⟩ := hch i.size cs o (by rw [List.length_take] at hrl; omega) hc
        refine ⟨mkV i.sh.agg us, mkV_rep (by rw [mapCO_eq]; exact hu2) (fun hg => by rw [hul, ht.one hg]), fun d ty' pos af g' w' hw => ?_⟩
        have hHw : ∀ b o, ρ.H b = some o → w'.heap[b]? = some o := fun b o hb => by
          exact hw b o (by rw [← hs.df.2]; exact hb)
        have := run_load_cells (w := w') ht (g := g) (o := o) (fun j u hj => rcell_cell hHw (hu3 j u hj)) hul
        simp [execOp, hp, this]
      · cases h
    · cases h
  · cases h
end
end Go.Proofs.YtphaggopgdbojaaGreat
