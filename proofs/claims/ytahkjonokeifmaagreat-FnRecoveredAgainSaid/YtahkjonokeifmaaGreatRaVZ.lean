/- A box is only read from now on, its state in normal form; drawn regions over what is only read: several operations may come up, calls. No program in it. -/
import Derived.Test.YtahkjonokeifmaaGreatRaVY
namespace Go.Proofs.YtahkjonokeifmaaGreat
open Go.ChangeShapes Go.WideShapes Go.ChangeAt Go.RowKit
set_option linter.unusedVariables false
def frzCO (b : Nat) (cs : List C) : AC → Option AC
 | .pb b' o => match Nat.beq b' b with
  | true => match dropO o cs with
   | some l => some (.pe l)
   | none => none
  | false => some (.pb b' o)
 | .fn _ _ => some .no
 | x => some x
theorem frzCO_eq {b : Nat} {cs : List C} {x y : AC} (h : frzCO b cs x = some y) : y = frzC b cs x := by
 cases x with
 | pb b' o =>
  unfold frzCO at h
  unfold frzC
  simp only at h ⊢
  split at h
  ·rename_i e
   rw [e]
   split at h
   ·rename_i l hl; cases h; rw [(dropO_eq hl).1]
   ·cases h
  ·rename_i e; rw [e]; cases h; rfl
 | _ => cases h; rfl
def frzLO (b : Nat) (cs : List C) : List AC → Option (List AC)
 | [] => some []
 | x :: r => match frzCO b cs x with
  | some y => match frzLO b cs r with
   | some r' => some (y :: r')
   | none => none
  | none => none
theorem frzLO_eq {b : Nat} {cs : List C} : ∀ {l m : List AC}, frzLO b cs l = some m → m = l.map (frzC b cs)
 | [], m, h => by cases h; rfl
 | x :: r, m, h => by
  unfold frzLO at h
  split at h
  ·rename_i y hy
   split at h
   ·rename_i r' hr
    cases h
    rw [List.map_cons, frzCO_eq hy, frzLO_eq hr]
   ·cases h
  ·cases h
def frzTO (b : Nat) (cs : List C) : List (Nat × AV) → Option (List (Nat × AV))
  | [] => some []
  | (t, .p g l) :: r => match frzLO b cs l with
    | some l' => match frzTO b cs r with
      | some r' => some ((t, .p g l') :: r')
      | none => none
    | none => none
  | (t, .tup _) :: r => match frzTO b cs r with
    | some r' => some ((t, .no) :: r')
    | none => none
  | (t, .no) :: r => match frzTO b cs r with
    | some r' => some ((t, .no) :: r')
    | none => none
  | (t, .und) :: r => match frzTO b cs r with
    | some r' => some ((t, .und) :: r')
    | none => none
theorem frzTO_eq {b : Nat} {cs : List C} : ∀ {l m : List (Nat × AV)}, frzTO b cs l = some m → m = frzT b cs l
  | [], m, h => by cases h; rfl
  | (t, .p g l) :: r, m, h => by
    unfold frzTO at h
    split at h
    · rename_i l' hl
      split at h
      · rename_i r' hr
        cases h
        rw [frzLO_eq hl, frzTO_eq hr]
        rfl
      · cases h
    · cases h
  | (t, .tup _) :: r, m, h => by
    unfold frzTO at h
    split at h
    · rename_i r' hr; cases h; rw [frzTO_eq hr]; rfl
    · cases h
  | (t, .no) :: r, m, h => by
    unfold frzTO at h
    split at h
    · rename_i r' hr; cases h; rw [frzTO_eq hr]; rfl
    · cases h
  | (t, .und) :: r, m, h => by
    unfold frzTO at h
    split at h
    · rename_i r' hr; cases h; rw [frzTO_eq hr]; rfl
    · cases h
def frzBO (b : Nat) (cs : List C) : List (Nat × Nat × List AC) → Option (List (Nat × Nat × List AC))
  | [] => some []
  | (k, ty, l) :: r => match Nat.beq k b with
    | true => frzBO b cs r
    | false => match frzLO b cs l with
      | some l' => match frzBO b cs r with
        | some r' => some ((k, ty, l') :: r')
        | none => none
      | none => none
theorem frzBO_eq {b : Nat} {cs : List C} : ∀ {l m : List (Nat × Nat × List AC)}, frzBO b cs l = some m → m = frzB b cs l
  | [], m, h => by cases h; rfl
  | (k, ty, l) :: r, m, h => by
    unfold frzBO at h
    unfold frzB
    split at h
    · rename_i e; rw [e]; exact frzBO_eq h
    · rename_i e
      rw [e]
      split at h
      · rename_i l' hl
        split at h
        · rename_i r' hr
          cases h
          rw [frzLO_eq hl, frzBO_eq hr]
        · cases h
      · cases h
section
variable {P : Program} {X : Cx} {S S' S1 : St} {ops : Array Oper} {T T' : List (Nat × AV)} {B B' : List (Nat × Nat × List AC)} {R : List (Nat × Nat × Nat × List (List C))} {M : List (Nat × (Int → Option Value))} {fuel : Nat} {listed : Array Bool} {d : Tmp} {op : Op} {ty : TypeId} {pos : String} {af : Array Edge} {g : Option (Nat × Bool)} {av : AV}
theorem ev_frz {Q : Exit → Act → World → Prop} {c : Code} {cs : List C} {bt : Nat} (b : Nat) (hb : lk B b = some (bt, mapCO cs)) (hT : frzTO b cs T = some T') (hB : frzBO b cs B = some B')
  (h : ∀ H', (∀ g o, X.H g = some o → H' g = some o) → Ev P ⟨X.N, X.w0, X.F0, H', X.K, X.D⟩ c Q ⟨T', B', R, []⟩) : Ev P X c Q ⟨T, B, R, []⟩ := by
 refine ev_freeze b hb fun H' hH => ?_
 have := h H' hH
 rw [frzTO_eq hT, frzBO_eq hB] at this
 exact this
variable {Q : Act → World → Prop}
def RDho (P : Program) (X : Cx) (ops : Array Oper) (fuel : Nat) (listed : Array Bool) (i : Nat) (S : St) (Q : Act → World → Prop) : Prop :=
 ∀ ρ a w, Sim X ρ S a w → wpOp P ops (QK Q) i (fun a' w' => (unbroken [] (listed.setIfInBounds i true) = true → HL X w') ∧ wpAnyK P .any ops (QK Q) [] (HL X) fuel (listed.setIfInBounds i true) a' w') a w
theorem rdh_1 (i : Nat) (hr : Region.ready .any ops listed = [i]) (h : RDho P X ops fuel listed i S Q) : RDh P X ops (fuel + 1) listed S Q :=
 fun ρ a w hs => ⟨fun h0 => absurd h0 (by rw [hr]; simp), fun j hj => by
  rw [hr] at hj
  obtain rfl := List.mem_singleton.1 hj
  exact h ρ a w hs⟩
theorem rdh_2 (i j : Nat) (hr : Region.ready .any ops listed = [i, j]) (h1 : RDho P X ops fuel listed i S Q) (h2 : RDho P X ops fuel listed j S Q) : RDh P X ops (fuel + 1) listed S Q :=
 fun ρ a w hs => ⟨fun h0 => absurd h0 (by rw [hr]; simp), fun q hq => by
  rw [hr] at hq
  rcases List.mem_cons.1 hq with rfl | hq
  ·exact h1 ρ a w hs
  ·obtain rfl := List.mem_singleton.1 hq
   exact h2 ρ a w hs⟩
theorem rdho_eff {i : Nat} {dd : Option Tmp} {fr : Bool} (hi : ops[i]? = some ⟨dd, op, ty, pos, af, g⟩) (hg : GOk ops S.T g) (he : Eff P X S dd op S1 fr) (h : RDh P X ops fuel (listed.setIfInBounds i true) S1 Q) : RDho P X ops fuel listed i S Q := by
 intro ρ a w hs
 refine wpOp_step hi fun K' hK => ?_
 rw [if_pos (GOk.wanted (o := ⟨dd, op, ty, pos, af, g⟩) hs hg)]
 exact eff_wp (P := P) (o := ⟨dd, op, ty, pos, af, g⟩) he rfl hs fun ρ' v w' hs' _ => hK _ _ ⟨fun _ => hs'.hl, h ρ' _ w' hs'⟩
theorem rdho_q {i : Nat} (hi : ops[i]? = some ⟨some d, op, ty, pos, af, g⟩) (hg : GOk ops T g) (hq : Quiet P X ⟨T, B, R, M⟩ op av) (hN : okD X d = true) (h : RDh P X ops fuel (listed.setIfInBounds i true) ⟨(d, av) :: T, B, R, M⟩ Q) : RDho P X ops fuel listed i ⟨T, B, R, M⟩ Q := by
 intro ρ a w hs
 refine wpOp_step hi fun K' hK => ?_
 rw [if_pos (GOk.wanted (o := ⟨some d, op, ty, pos, af, g⟩) hs hg)]
 obtain ⟨v, h1, h2⟩ := hq ρ a w hs
 unfold Oper.wp
 rw [h2 _ _ _ _ _ w (Below.refl _ _)]
 exact hK _ _ ⟨fun _ => (hs.put hN h1).hl, h ρ _ w (hs.put hN h1)⟩
theorem rdh_fin (hr : Region.ready .any ops listed = []) : RDh P X ops fuel listed S (QS X S) := by
 intro ρ a w hs
 cases fuel with
 | zero => exact ⟨hr, ρ, hs⟩
 | succ n => exact ⟨fun _ => ⟨ρ, hs⟩, by rw [hr]; simp⟩
theorem rdh_le (σ : List (Nat × Nat)) (hr : Region.ready .any ops listed = []) (hl : Le σ S S') : RDh P X ops fuel listed S (QS X S') := by
 intro ρ a w hs
 cases fuel with
 | zero => exact ⟨hr, _, hs.le hl⟩
 | succ n => exact ⟨fun _ => ⟨_, hs.le hl⟩, by rw [hr]; simp⟩
theorem ev_drawhJ {id : Nat} {l : List Oper} (hm : P.follows .mixedOrders = true) (h : RDh P X l.toArray l.toArray.size (Array.replicate l.toArray.size false) S (QS X S')) {Q : Exit → Act → World → Prop} (k : EvE X .normal Q S') : Ev P X (.region id l.toArray true) Q S := by
 intro ρ a w hs
 refine wp_mono (Q := QK (QS X S')) (wp_region_any hm (wpAny_of_K _ _ _ _ (h ρ a w.drew hs.drew))) fun e a' w' hq => ?_
 cases e with
 | normal => obtain ⟨ρ', h'⟩ := hq; exact k ρ' a' w' h'
 | _ => exact hq.elim
end
end Go.Proofs.YtahkjonokeifmaaGreat
