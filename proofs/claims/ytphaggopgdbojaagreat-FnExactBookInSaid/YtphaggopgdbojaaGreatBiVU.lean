/- Slots that were written anew are listed once. No program in it. -/
import Derived.Test.YtphaggopgdbojaaGreatBiV9
namespace Go.Proofs.YtphaggopgdbojaaGreat
open Go.ChangeShapes Go.WideShapes Go.ChangeAt Go.RowKit
set_option linter.unusedVariables false
def ddT : List Nat → List (Nat × AV) → Option (List (Nat × AV))
  | _, [] => some []
  | G, (t, v) :: r => match G.elem t with
    | true => ddT G r
    | false => match ddT (t :: G) r with
      | some r' => some ((t, v) :: r')
      | none => none
theorem ddT_lk : ∀ {T T' : List (Nat × AV)} {G : List Nat}, ddT G T = some T' → ∀ t av, lk T' t = some av → G.elem t = false ∧ lk T t = some av
  | [], T', G, h, t, av, ht => by cases h; cases ht
  | (k, v) :: r, T', G, h, t, av, ht => by
    unfold ddT at h
    show G.elem t = false ∧ (if k = t then some v else lk r t) = some av
    split at h
    · rename_i hk
      obtain ⟨h1, h2⟩ := ddT_lk h t av ht
      refine ⟨h1, ?_⟩
      rw [if_neg (fun e => by rw [e, h1] at hk; cases hk)]
      exact h2
    · rename_i hk
      split at h
      · rename_i r' hr
        cases h
        have ht' : (if k = t then some v else lk r' t) = some av := ht
        by_cases e : k = t
        · rw [if_pos e] at ht' ⊢
          exact ⟨by rw [← e]; exact hk, ht'⟩
        · rw [if_neg e] at ht' ⊢
          obtain ⟨h1, h2⟩ := ddT_lk hr t av ht'
          refine ⟨?_, h2⟩
          cases h9 : G.elem t with
          | false => rfl
          | true =>
            have : (k :: G).elem t = true := by
              show (match t == k with
                | true => true
                | false => G.elem t) = true
              rw [h9]
              cases (t == k) <;> rfl
            rw [h1] at this; cases this
      · cases h
theorem ev_dd {P : Program} {X : Cx} {Q : Exit → Act → World → Prop} {T T' : List (Nat × AV)} {B : List (Nat × Nat × List AC)} {R : List (Nat × Nat × Nat × List (List C))} {M : List (Nat × (Int → Option Value))} {c : Code} (hd : ddT [] T = some T') (h : Ev P X c Q ⟨T', B, R, M⟩) : Ev P X c Q ⟨T, B, R, M⟩ :=
  fun ρ a w hs => h ρ a w (hs.weakT fun t av ht => .inl (ddT_lk hd t av ht).2)
end Go.Proofs.YtphaggopgdbojaaGreat
