/- Walks on states: operations in order, code, calls of functions that make what they hand back, returns. No program in it. -/
import Derived.Test.YtphaggopgdbojaaGreatRiV6
namespace Go.Proofs.YtphaggopgdbojaaGreat
open Go.ChangeShapes Go.WideShapes Go.ChangeAt Go.RowKit
set_option linter.unusedVariables false
def EvL (P : Program) (X : Cx) (ops : Array Oper) (l : List Oper) (Q : Exit → Act → World → Prop) (S : St) : Prop := ∀ ρ a w, Sim X ρ S a w → wpList P ops Q l a w
def Ev (P : Program) (X : Cx) (c : Code) (Q : Exit → Act → World → Prop) (S : St) : Prop := ∀ ρ a w, Sim X ρ S a w → c.wp P Q a w
def EvE (X : Cx) (e : Exit) (Q : Exit → Act → World → Prop) (S : St) : Prop := ∀ ρ a w, Sim X ρ S a w → Q e a w
section
variable {P : Program} {X : Cx} {S S' : St} {Q : Exit → Act → World → Prop} {ops : Array Oper} {rest : List Oper}
theorem ev_seq {x y : Code} (h : Ev P X x (Exit.then (y.wp P Q) Q) S) : Ev P X (.seq x y) Q S := fun ρ a w hs => wp_seq (h ρ a w hs)
theorem ev_reg {id : Nat} {l : List Oper} (h : EvL P X l.toArray l Q S) : Ev P X (.region id l.toArray false) Q S := fun ρ a w hs => wp_region_lit (h ρ a w hs)
theorem evl_nil (h : EvE X .normal Q S) : EvL P X ops [] Q S := fun ρ a w hs => h ρ a w hs
theorem eve_then {y : Code} {Q' : Exit → Act → World → Prop} (h : Ev P X y Q' S) : EvE X .normal (Exit.then (y.wp P Q') Q) S := fun ρ a w hs => h ρ a w hs
theorem eve_blk {id : Nat} (h : EvE X .normal Q S) : EvE X .normal (Exit.inBlock id Q) S := fun ρ a w hs => h ρ a w hs
theorem ev_blk {id : Nat} {c : Code} (h : Ev P X c (Exit.inBlock id Q) S) : Ev P X (.block id c) Q S := fun ρ a w hs => wp_block (h ρ a w hs)
theorem ev_skip (h : EvE X .normal Q S) : Ev P X .skip Q S := fun ρ a w hs => wp_skip (h ρ a w hs)
theorem ev_exit {id : Nat} (h : EvE X (.exit id) Q S) : Ev P X (.exit id) Q S := fun ρ a w hs => wp_exit (h ρ a w hs)
theorem ev_ret (h : EvE X .ret Q S) : Ev P X .ret Q S := fun ρ a w hs => wp_ret (h ρ a w hs)
theorem evx_then {id : Nat} {K : Act → World → Prop} (h : EvE X (.exit id) Q S) : EvE X (.exit id) (Exit.then K Q) S := fun ρ a w hs => h ρ a w hs
theorem evx_hit {id : Nat} (h : EvE X .normal Q S) : EvE X (.exit id) (Exit.inBlock id Q) S := fun ρ a w hs => by
  show if id = id then _ else _
  rw [if_pos rfl]; exact h ρ a w hs
theorem evr_then {K : Act → World → Prop} (h : EvE X .ret Q S) : EvE X .ret (Exit.then K Q) S := fun ρ a w hs => h ρ a w hs
theorem evr_blk {id : Nat} (h : EvE X .ret Q S) : EvE X .ret (Exit.inBlock id Q) S := fun ρ a w hs => h ρ a w hs
theorem ev_cond {c : Operand} {x y : Code} {b : Bool} (hc : opv S.T c = some (.p false [.c (.v (.bool b))])) (ht : b = true → Ev P X x Q S) (hf : b = false → Ev P X y Q S) : Ev P X (.cond c x y) Q S := by
  intro ρ a w hs
  have hb : a.eval c = .bool b := rd_v (opv_rep hs hc).1
  cases b
  · exact wp_cond_false hb (hf rfl ρ a w hs)
  · exact wp_cond_true hb (ht rfl ρ a w hs)
/-- not b: parted on b -/
theorem ev_cond_n {c : Operand} {x y : Code} {b : Bool} (hc : opv S.T c = some (.p false [.c (.v (.bool !b))])) (ht : b = false → Ev P X x Q S) (hf : b = true → Ev P X y Q S) : Ev P X (.cond c x y) Q S :=
  ev_cond hc (fun h => ht (by simpa using h)) (fun h => hf (by simpa using h))
theorem evl_q {T : List (Nat × AV)} {B : List (Nat × Nat × List AC)} {R : List (Nat × Nat × Nat × List (List C))} {M : List (Nat × (Int → Option Value))} {d : Tmp} {op : Op} {ty : TypeId} {pos : String} {af : Array Edge} {av : AV} (hq : Quiet P X ⟨T, B, R, M⟩ op av) (hN : okD X d = true) (h : EvL P X ops rest Q ⟨(d, av) :: T, B, R, M⟩) :
    EvL P X ops (⟨some d, op, ty, pos, af, none⟩ :: rest) Q ⟨T, B, R, M⟩ := by
  intro ρ a w hs
  obtain ⟨v, h1, h2⟩ := hq ρ a w hs
  refine wpList_plain rfl fun K hK => ?_
  unfold Oper.wp
  rw [h2 _ _ _ _ _ w (Below.refl _ _)]
  exact hK _ _ (h ρ _ w (hs.put hN h1))
def gTmp (ops : Array Oper) (j : Nat) : Option Tmp :=
  match ops[j]? with
  | some o => o.dst
  | none => none
theorem wanted_of {o : Oper} {j : Nat} {want b : Bool} {t : Tmp} {ρ : Rho} {a : Act} {w : World} (hs : Sim X ρ S a w) (hg : o.guard = some (j, want)) (hj : gTmp ops j = some t) (hv : lk S.T t = some (.p false [.c (.v (.bool b))])) : Region.wanted o (yielded ops a.tmps) = (b == want) := by
  obtain ⟨v, h1, h2⟩ := hs.T t _ hv
  have hb : v = .bool b := rd_v h2.1
  unfold gTmp at hj
  split at hj
  · rename_i o' ho
    simp only [Region.wanted, hg, yielded, ho, Option.bind_some, hj, h1, hb]
    cases b <;> cases want <;> rfl
  · cases hj
/-- an operation that comes up only if an earlier one gave a truth value -/
theorem evl_qg {T : List (Nat × AV)} {B : List (Nat × Nat × List AC)} {R : List (Nat × Nat × Nat × List (List C))} {M : List (Nat × (Int → Option Value))} {d : Tmp} {op : Op} {ty : TypeId} {pos : String} {af : Array Edge} {j : Nat} {want b : Bool} {t : Tmp} {av : AV} (hj : gTmp ops j = some t) (hv : lk T t = some (.p false [.c (.v (.bool b))])) (hb : b = want) (hq : Quiet P X ⟨T, B, R, M⟩ op av) (hN : okD X d = true)
    (h : EvL P X ops rest Q ⟨(d, av) :: T, B, R, M⟩) : EvL P X ops (⟨some d, op, ty, pos, af, some (j, want)⟩ :: rest) Q ⟨T, B, R, M⟩ := by
  intro ρ a w hs
  obtain ⟨v, h1, h2⟩ := hq ρ a w hs
  refine wpList_step fun K hK => ?_
  rw [wanted_of hs rfl hj hv, hb, beq_self_eq_true, if_pos rfl]
  unfold Oper.wp
  rw [h2 _ _ _ _ _ w (Below.refl _ _)]
  exact hK _ _ (h ρ _ w (hs.put hN h1))
theorem evl_no {T : List (Nat × AV)} {B : List (Nat × Nat × List AC)} {R : List (Nat × Nat × Nat × List (List C))} {M : List (Nat × (Int → Option Value))} {d : Tmp} {op : Op} {ty : TypeId} {pos : String} {af : Array Edge} {j : Nat} {want b : Bool} {t : Tmp} (hj : gTmp ops j = some t) (hv : lk T t = some (.p false [.c (.v (.bool b))])) (hb : b = !want) (hN : okD X d = true)
    (h : EvL P X ops rest Q ⟨(d, .und) :: T, B, R, M⟩) : EvL P X ops (⟨some d, op, ty, pos, af, some (j, want)⟩ :: rest) Q ⟨T, B, R, M⟩ := by
  intro ρ a w hs
  refine wpList_step fun K hK => ?_
  rw [wanted_of hs rfl hj hv, hb, if_neg (by cases want <;> simp)]
  exact hK _ _ (h ρ _ w (hs.put hN rfl))
theorem wanted_und {o : Oper} {j : Nat} {want : Bool} {t : Tmp} {ρ : Rho} {a : Act} {w : World} (hs : Sim X ρ S a w) (hg : o.guard = some (j, want)) (hj : gTmp ops j = some t) (hv : lk S.T t = some .und) : Region.wanted o (yielded ops a.tmps) = false := by
  obtain ⟨v, h1, h2⟩ := hs.T t _ hv
  have hb : v = undef := h2
  unfold gTmp at hj
  split at hj
  · rename_i o' ho
    simp only [Region.wanted, hg, yielded, ho, Option.bind_some, hj, h1, hb]
    cases want <;> rfl
  · cases hj
theorem evl_noU {T : List (Nat × AV)} {B : List (Nat × Nat × List AC)} {R : List (Nat × Nat × Nat × List (List C))} {M : List (Nat × (Int → Option Value))} {d : Tmp} {op : Op} {ty : TypeId} {pos : String} {af : Array Edge} {j : Nat} {want : Bool} {t : Tmp} (hj : gTmp ops j = some t) (hv : lk T t = some .und) (hN : okD X d = true)
    (h : EvL P X ops rest Q ⟨(d, .und) :: T, B, R, M⟩) : EvL P X ops (⟨some d, op, ty, pos, af, some (j, want)⟩ :: rest) Q ⟨T, B, R, M⟩ := by
  intro ρ a w hs
  refine wpList_step fun K hK => ?_
  rw [wanted_und hs rfl hj hv, if_neg (by simp)]
  exact hK _ _ (h ρ _ w (hs.put hN rfl))
theorem evl_e {d : Option Tmp} {op : Op} {ty : TypeId} {pos : String} {af : Array Edge} {fr : Bool} (he : Eff P X S d op S' fr) (h : EvL P X ops rest Q S') : EvL P X ops (⟨d, op, ty, pos, af, none⟩ :: rest) Q S := by
  intro ρ a w hs
  obtain ⟨ρ', nx, v, w', h1, h2, h3, _⟩ := he ρ a w hs
  refine wpList_plain rfl fun K hK => ?_
  unfold Oper.wp
  rw [h1]
  rcases h2 with rfl | ⟨rfl, rfl⟩
  · exact hK _ _ (h ρ' _ w' h3)
  · exact hK _ _ (h ρ' _ w' h3)
/-- the walk parts on what an operation hangs on -/
theorem evl_part {d : Option Tmp} {op : Op} {ty : TypeId} {pos : String} {af : Array Edge} {j : Nat} {want b : Bool} {t : Tmp} (hj : gTmp ops j = some t) (hv : lk S.T t = some (.p false [.c (.v (.bool b))])) (ht : b = true → EvL P X ops (⟨d, op, ty, pos, af, some (j, want)⟩ :: rest) Q S)
    (hf : b = false → EvL P X ops (⟨d, op, ty, pos, af, some (j, want)⟩ :: rest) Q S) : EvL P X ops (⟨d, op, ty, pos, af, some (j, want)⟩ :: rest) Q S := by
  cases b
  · exact hf rfl
  · exact ht rfl
/-- what is known of some slots only is kept -/
def prT (G : List Nat) : List (Nat × AV) → Option (List (Nat × AV))
  | [] => some []
  | (t, v) :: r => match G.elem t with
    | true => match prT G r with
      | some r' => some ((t, v) :: r')
      | none => none
    | false => prT G r
theorem prT_lk {G : List Nat} : ∀ {T T' : List (Nat × AV)}, prT G T = some T' → ∀ t av, lk T' t = some av → lk T t = some av
  | [], T', h, t, av, ht => by cases h; cases ht
  | (k, v) :: r, T', h, t, av, ht => by
    unfold prT at h
    split at h
    · rename_i hk
      split at h
      · rename_i r' hr
        cases h
        unfold lk at ht ⊢
        split
        · rename_i e; rw [if_pos e] at ht; exact ht
        · rename_i e; rw [if_neg e] at ht; exact prT_lk hr t av ht
      · cases h
    · rename_i hk
      have hr := prT_lk h t av ht
      unfold lk
      split
      · rename_i e
        subst e
        exfalso
        have key : ∀ {T T' : List (Nat × AV)}, prT G T = some T' → ∀ x ∈ T', G.elem x.1 = true := by
          intro T
          induction T with
          | nil => intro T' h x hx; cases h; simp at hx
          | cons y r ih =>
            obtain ⟨k, v⟩ := y
            intro T' h x hx
            unfold prT at h
            split at h
            · rename_i hk
              split at h
              · rename_i r' hr
                cases h
                rcases List.mem_cons.1 hx with rfl | hx
                · exact hk
                · exact ih hr x hx
              · cases h
            · exact ih h x hx
        have := key h _ (lk_mem ht)
        simp only at this
        rw [hk] at this
        cases this
      · exact hr
theorem ev_pr {T : List (Nat × AV)} {B : List (Nat × Nat × List AC)} {R : List (Nat × Nat × Nat × List (List C))} {M : List (Nat × (Int → Option Value))} {c : Code} (G : List Nat) {T' : List (Nat × AV)} (hp : prT G T = some T') (h : Ev P X c Q ⟨T', B, R, M⟩) : Ev P X c Q ⟨T, B, R, M⟩ :=
  fun ρ a w hs => h ρ a w (hs.weakT fun t av ht => .inl (prT_lk hp t av ht))
end

/-! contracts: functions that make what they hand back, and leave all else -/
inductive RC where
  | v (x : Value)
  | s (ty n : Nat) (l : List (List C))
  | nil
  | c (x : C)
def Pc (H : Nat → Option Obj) (x : Bool × List C) (u : Value) : Prop := if x.1 then ∃ us : List Value, u = .agg us.toArray ∧ L2 (RdX H) x.2 us else L2 (RdX H) x.2 [u]
def OwR (H : Nat → Option Obj) (w : World) : RC → Value → List Nat → Prop
  | .c x, u, F => RdX H x u ∧ F = []
  | .v x, u, F => (u = x ∧ x.oneCell' = true) ∧ F = []
  | .nil, u, F => u = .slice none 0 0 ∧ F = []
  | .s ty n l, u, F => ∃ xs, OwS w ty n l u xs F
def OwRs (H : Nat → Option Obj) (w : World) : List RC → List Value → List Nat → Prop
  | [], [], F => F = []
  | r :: rs, u :: us, F => ∃ F1 F2, OwR H w r u F1 ∧ OwRs H w rs us F2 ∧ F = F1 ++ F2
  | _, _, _ => False
def OwP (H : Nat → Option Obj) (w : World) (p : Bool × List RC) (u : Value) (F : List Nat) : Prop := ∃ us : List Value, u = mkV p.1 us ∧ (p.1 = false → us.length = 1) ∧ OwRs H w p.2 us F
def OwPs (H : Nat → Option Obj) (w : World) : List (Bool × List RC) → List Value → List Nat → Prop
  | [], [], F => F = []
  | p :: ps, u :: us, F => ∃ F1 F2, OwP H w p u F1 ∧ OwPs H w ps us F2 ∧ F = F1 ++ F2
  | _, _, _ => False
def retV : List Value → Value
  | [x] => x
  | vs => .tuple vs.toArray
def PurePost (H : Nat → Option Obj) (res : List (Bool × List RC)) (w : World) (e : Ending) (w' : World) : Prop :=
  ∃ us F, e = .returned (retV us) ∧ OwPs H w' res us F ∧ F.Nodup ∧ (∀ b ∈ F, w.heap.size ≤ b) ∧ Below w.heap.size w w'
def Pure (P : Program) (f : FuncId) (args : List (Bool × List C)) (res : List (Bool × List RC)) : Prop :=
  ∀ (H : Nat → Option Obj) (w : World) (vs : List Value), (∀ b o, H b = some o → w.heap[b]? = some o) → L2 (Pc H) args vs → Calls P f vs.toArray w (PurePost H res w)
/-! the beginning of a function -/
def argT : Nat → List (Bool × List C) → Option (List (Nat × AV))
  | _, [] => some []
  | k, (g, l) :: r => match argT (k + 1) r with
    | some r' => match mapOO l with
      | some l' => some ((k, .p g l') :: r')
      | none => none
    | none => none
theorem argT_rep {ρ : Rho} : ∀ {args : List (Bool × List C)} {k : Nat} {T : List (Nat × AV)} {vs : List Value}, argT k args = some T → L2 (Pc ρ.H) args vs → ∀ t av, lk T t = some av → k ≤ t ∧ ∃ v, vs[t - k]? = some v ∧ RepV ρ av v
  | [], k, T, vs, h, _, t, av, ht => by cases h; cases ht
  | (g, l) :: r, k, T, vs, h, hv, t, av, ht => by
    unfold argT at h
    split at h
    · rename_i r' hr
      split at h
      case h_2 => cases h
      rename_i l0 hl0
      obtain rfl := mapOO_eq hl0
      cases h
      match vs, hv with
      | v :: vs, hv =>
        unfold lk at ht
        split at ht
        · rename_i e
          subst e
          cases ht
          refine ⟨Nat.le_refl _, v, by simp, ?_⟩
          have h1 := hv.1
          have hcell : ∀ {l : List C} {us : List Value}, L2 (RdX ρ.H) l us → L2 (RepC ρ) (mapCO l) us := by
            intro l
            induction l with
            | nil => intro us h; match us, h with | [], _ => trivial
            | cons c l ih => intro us h; match us, h with | u :: us, h => exact ⟨h.1, ih h.2⟩
          unfold Pc at h1
          show RepP ρ (g, mapCO l) v
          unfold RepP
          split
          · rename_i hg
            rw [if_pos hg] at h1
            obtain ⟨us, rfl, h2⟩ := h1
            exact ⟨us, rfl, hcell h2⟩
          · rename_i hg
            rw [if_neg hg] at h1
            exact hcell h1
        · rename_i e
          obtain ⟨h1, v', h2, h3⟩ := argT_rep hr hv.2 t av ht
          refine ⟨by omega, v', ?_, h3⟩
          rw [show t - k = (t - (k + 1)) + 1 by omega]
          simpa using h2
    · cases h
theorem pure_intro {P : Program} {f : FuncId} {fn : Func} {c : Code} {args : List (Bool × List C)} {res : List (Bool × List RC)} {T : List (Nat × AV)} {N : Nat} (hf : P.funcs[f]? = some fn) (hb : fn.body = some c) (hN : fn.ntmps = N) (hl : Nat.ble args.length N = true) (hT : argT 0 args = some T)
    (h : ∀ H w, Ev P ⟨N, w, [], H, [], []⟩ c (bodyPost P fn (PurePost H res w)) ⟨T, [], [], []⟩) : Pure P f args res := by
  intro H w vs hH hv
  refine calls_of_wp hf hb ?_
  have hvl := hv.len
  have hle := Nat.le_of_ble_eq_true hl
  refine h H w ⟨H, fun _ => 0, fun _ => undef, fun _ => [], fun _ => []⟩ _ w ⟨⟨hH, by simp, by simp, by simp, by simp [feet], by simp [feet]⟩, fun t av ht => ?_, ⟨rfl, rfl⟩, ⟨by simp [hN]; omega, by simp⟩, Chg.refl _ _, by simp [feet]⟩
  obtain ⟨_, v, h1, h2⟩ := argT_rep (ρ := ⟨H, fun _ => 0, fun _ => undef, fun _ => [], fun _ => []⟩) hT hv t av ht
  refine ⟨v, ?_, h2⟩
  have hlt : t < vs.length := (List.getElem?_eq_some_iff.1 h1).1
  simp only [Nat.sub_zero] at h1
  show (vs.toArray ++ _)[t]? = some v
  rw [Array.getElem?_append_left (by simpa using hlt)]
  simpa using h1
/-! the end of a function -/
def retP (TT : List (Nat × TI)) (S : St) : ResultVar → Option (Bool × List AC)
  | .tmp t => match lk S.T t with
    | some (.p g l) => some (g, l)
    | _ => none
  | .cell t ty => match qLoad TT S ty (.tmp t) with
    | some (.p g l) => some (g, l)
    | _ => none
def retPs (TT : List (Nat × TI)) (S : St) : List ResultVar → Option (List (Bool × List AC))
  | [] => some []
  | r :: rs => match retP TT S r with
    | some p => match retPs TT S rs with
      | some ps => some (p :: ps)
      | none => none
    | none => none
def eraR (r : Nat) : List (Nat × Nat × Nat × List (List C)) → List (Nat × Nat × Nat × List (List C))
  | [] => []
  | (k, x) :: R => match Nat.beq k r with
    | true => R
    | false => (k, x) :: eraR r R
/-- cells that are handed back; the slices of one's own among them are given away -/
def toRC (R : List (Nat × Nat × Nat × List (List C))) : List AC → Option (List RC × List (Nat × Nat × Nat × List (List C)))
  | [] => some ([], R)
  | .c (.v x) :: r => match toRC R r with
    | some (l, R') => some (.v x :: l, R')
    | none => none
  | .c .nil :: r => match toRC R r with
    | some (l, R') => some (.nil :: l, R')
    | none => none
  | .c x :: r => match toRC R r with
    | some (l, R') => some (.c x :: l, R')
    | none => none
  | .rt k :: r => match lk R k with
    | some (ty, n, l) => match toRC (eraR k R) r with
      | some (l', R') => some (.s ty n l :: l', R')
      | none => none
    | none => none
  | _ :: _ => none
def toRCs (R : List (Nat × Nat × Nat × List (List C))) : List (Bool × List AC) → Option (List (Bool × List RC))
  | [] => some []
  | (g, l) :: ps => match toRC R l with
    | some (l', R') => match toRCs R' ps with
      | some ps' => some ((g, l') :: ps')
      | none => none
    | none => none
section
variable {P : Program} {X : Cx} {S : St} {ρ : Rho} {a : Act} {w : World} {TT : List (Nat × TI)}
theorem oneV {x u : Value} {H : Nat → Option Obj} (h : RdX H (.v x) u) : u = x ∧ x.oneCell' = true := ⟨rd_v h, by rw [← rd_v h]; exact h.one⟩
theorem eraR_split {r : Nat} : ∀ {R : List (Nat × Nat × Nat × List (List C))} {x : Nat × Nat × List (List C)}, lk R r = some x → ∃ p q, R = p ++ (r, x) :: q ∧ eraR r R = p ++ q
  | (k, y) :: R, x, h => by
    unfold lk at h
    split at h
    · rename_i e
      subst e
      cases h
      exact ⟨[], R, rfl, by simp [eraR]⟩
    · rename_i e
      obtain ⟨p, q, rfl, h2⟩ := eraR_split h
      refine ⟨(k, y) :: p, q, rfl, ?_⟩
      have : Nat.beq k r = false := by
        cases hb : Nat.beq k r with
        | false => rfl
        | true => exact absurd (Nat.eq_of_beq_eq_true hb) e
      unfold eraR
      rw [this]
      simp [h2]
  | [], _, h => by cases h
theorem toRC_ok (hR : ∀ x ∈ S.R, OwS w x.2.1 x.2.2.1 x.2.2.2 (ρ.root x.1) (ρ.rows x.1) (ρ.foot x.1)) : ∀ {l : List AC} {R R' : List (Nat × Nat × Nat × List (List C))} {rs : List RC} {us : List Value}, (∀ x ∈ R, x ∈ S.R) → toRC R l = some (rs, R') → L2 (RepC ρ) l us → (R.flatMap fun x => ρ.foot x.1).Nodup →
    ∃ F, OwRs ρ.H w rs us F ∧ (∀ x ∈ R', x ∈ R) ∧ (F ++ R'.flatMap fun x => ρ.foot x.1).Nodup ∧ ∀ b ∈ F, b ∈ R.flatMap fun x => ρ.foot x.1
  | [], R, R', rs, us, _, h, hu, hn => by
    cases h
    match us, hu with
    | [], _ => exact ⟨[], rfl, fun x hx => hx, by simpa using hn, by simp⟩
  | x :: l, R, R', rs, us, hS, h, hu, hn => by
    match us, hu with
    | u :: us, hu =>
      unfold toRC at h
      split at h
      · cases ‹_ :: _ = []›
      · rename_i y r e
        cases e
        split at h
        · rename_i l' R'' hr
          cases h
          obtain ⟨F, h1, h2, h3, h4⟩ := toRC_ok hR hS hr hu.2 hn
          exact ⟨F, ⟨[], F, ⟨oneV hu.1, rfl⟩, h1, rfl⟩, h2, h3, h4⟩
        · cases h
      · rename_i r e
        cases e
        split at h
        · rename_i l' R'' hr
          cases h
          obtain ⟨F, h1, h2, h3, h4⟩ := toRC_ok hR hS hr hu.2 hn
          exact ⟨F, ⟨[], F, ⟨rd_nil hu.1, rfl⟩, h1, rfl⟩, h2, h3, h4⟩
        · cases h
      · rename_i y r _ _ e
        cases e
        split at h
        · rename_i l' R'' hr
          cases h
          obtain ⟨F, h1, h2, h3, h4⟩ := toRC_ok hR hS hr hu.2 hn
          exact ⟨F, ⟨[], F, ⟨hu.1, rfl⟩, h1, rfl⟩, h2, h3, h4⟩
        · cases h
      · rename_i k r e
        cases e
        split at h
        · rename_i ty n ll hk
          split at h
          · rename_i l' R'' hr
            cases h
            obtain ⟨p, q, rfl, h5⟩ := eraR_split hk
            rw [h5] at hr
            have hn' : ((p ++ q).flatMap fun x => ρ.foot x.1).Nodup ∧ (ρ.foot k).Nodup ∧ ∀ b ∈ ρ.foot k, b ∉ (p ++ q).flatMap fun x => ρ.foot x.1 := by
              simp only [List.flatMap_append, List.flatMap_cons] at hn ⊢
              obtain ⟨n1, n2, n3⟩ := List.nodup_append.1 hn
              obtain ⟨n4, n5, n6⟩ := List.nodup_append.1 n2
              refine ⟨List.nodup_append.2 ⟨n1, n5, fun a ha b hb => n3 a ha b (List.mem_append_right _ hb)⟩, n4, fun b hb hm => ?_⟩
              rcases List.mem_append.1 hm with hm | hm
              · exact n3 b hm b (List.mem_append_left _ hb) rfl
              · exact n6 b hb b hm rfl
            have hS' : ∀ x ∈ p ++ q, x ∈ S.R := fun x hx => hS x (by rcases List.mem_append.1 hx with h9 | h9 <;> simp [h9])
            obtain ⟨F, h1, h2, h3, h4⟩ := toRC_ok hR hS' hr hu.2 hn'.1
            have ho := hR (k, ty, n, ll) (hS _ (by simp))
            refine ⟨ρ.foot k ++ F, ⟨ρ.foot k, F, ⟨ρ.rows k, by rw [show u = ρ.root k from hu.1.1]; exact ho⟩, h1, rfl⟩, fun x hx => ?_, ?_, fun b hb => ?_⟩
            · have := h2 x hx
              rcases List.mem_append.1 this with h9 | h9 <;> simp [h9]
            · rw [List.append_assoc]
              refine List.nodup_append.2 ⟨hn'.2.1, h3, fun a ha b hb e => ?_⟩
              subst e
              rcases List.mem_append.1 hb with hb | hb
              · exact hn'.2.2 a ha (h4 a hb)
              · obtain ⟨x, hx, hb⟩ := List.mem_flatMap.1 hb
                exact hn'.2.2 a ha (List.mem_flatMap.2 ⟨x, h2 x hx, hb⟩)
            · simp only [List.flatMap_append, List.flatMap_cons]
              rcases List.mem_append.1 hb with hb | hb
              · exact List.mem_append_right _ (List.mem_append_left _ hb)
              · have := h4 b hb
                simp only [List.flatMap_append] at this
                rcases List.mem_append.1 this with h9 | h9
                · exact List.mem_append_left _ h9
                · exact List.mem_append_right _ (List.mem_append_right _ h9)
          · cases h
        · cases h
      · cases h
end
end Go.Proofs.YtphaggopgdbojaaGreat
