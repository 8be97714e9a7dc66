/- Walks on states: what is handed back, calls. No program in it. -/
import Derived.Test.YtahkjonokeifmaaGreatRaV6
namespace Go.Proofs.YtahkjonokeifmaaGreat
open Go.ChangeShapes Go.WideShapes Go.ChangeAt Go.RowKit
set_option linter.unusedVariables false
def EvL (P : Program) (X : Cx) (ops : Array Oper) (l : List Oper) (Q : Exit → Act → World → Prop) (S : St) : Prop := ∀ ρ a w, Sim X ρ S a w → wpList P ops Q l a w
def Ev (P : Program) (X : Cx) (c : Code) (Q : Exit → Act → World → Prop) (S : St) : Prop := ∀ ρ a w, Sim X ρ S a w → c.wp P Q a w
def EvE (X : Cx) (e : Exit) (Q : Exit → Act → World → Prop) (S : St) : Prop := ∀ ρ a w, Sim X ρ S a w → Q e a w
section
variable {P : Program} {X : Cx} {S S' : St} {Q : Exit → Act → World → Prop} {ops : Array Oper} {rest : List Oper}
theorem ev_seq {x y : Code} (h : Ev P X x (Exit.then (y.wp P Q) Q) S) : Ev P X (.seq x y) Q S := fun ρ a w hs => wp_seq (h ρ a w hs)
theorem ev_reg {id : Nat} {l : List Oper} (h : EvL P X l.toArray l Q S) : Ev P X (.region id l.toArray false) Q S := fun ρ a w hs => wp_region_lit (h ρ a w hs)
theorem evl_nil (h : EvE X .normal Q S) : EvL P X ops [] Q S := fun ρ a w hs => h ρ a w hs
theorem eve_then {y : Code} {Q' : Exit → Act → World → Prop} (h : Ev P X y Q' S) : EvE X .normal (Exit.then (y.wp P Q') Q) S := fun ρ a w hs => h ρ a w hs
theorem eve_blk {id : Nat} (h : EvE X .normal Q S) : EvE X .normal (Exit.inBlock id Q) S := fun ρ a w hs => h ρ a w hs
theorem ev_blk {id : Nat} {c : Code} (h : Ev P X c (Exit.inBlock id Q) S) : Ev P X (.block id c) Q S := fun ρ a w hs => wp_block (h ρ a w hs)
theorem ev_skip (h : EvE X .normal Q S) : Ev P X .skip Q S := fun ρ a w hs => wp_skip (h ρ a w hs)
theorem ev_exit {id : Nat} (h : EvE X (.exit id) Q S) : Ev P X (.exit id) Q S := fun ρ a w hs => wp_exit (h ρ a w hs)
theorem ev_ret (h : EvE X .ret Q S) : Ev P X .ret Q S := fun ρ a w hs => wp_ret (h ρ a w hs)
theorem evx_then {id : Nat} {K : Act → World → Prop} (h : EvE X (.exit id) Q S) : EvE X (.exit id) (Exit.then K Q) S := fun ρ a w hs => h ρ a w hs
theorem evx_hit {id : Nat} (h : EvE X .normal Q S) : EvE X (.exit id) (Exit.inBlock id Q) S := fun ρ a w hs => by
 show if id = id then _ else _
 rw [if_pos rfl]; exact h ρ a w hs
theorem evx_miss {id id' : Nat} (hn : Nat.beq id id' = false) (h : EvE X (.exit id) Q S) : EvE X (.exit id) (Exit.inBlock id' Q) S := fun ρ a w hs => by
 show if id = id' then _ else _
 rw [if_neg (beq_f hn)]; exact h ρ a w hs
theorem evr_then {K : Act → World → Prop} (h : EvE X .ret Q S) : EvE X .ret (Exit.then K Q) S := fun ρ a w hs => h ρ a w hs
theorem evr_blk {id : Nat} (h : EvE X .ret Q S) : EvE X .ret (Exit.inBlock id Q) S := fun ρ a w hs => h ρ a w hs
theorem ev_cond {c : Operand} {x y : Code} {b : Bool} (hc : opv S.T c = some (.p false [.c (.v (.bool b))])) (ht : b = true → Ev P X x Q S) (hf : b = false → Ev P X y Q S) : Ev P X (.cond c x y) Q S := by
 intro ρ a w hs
 have hb : a.eval c = .bool b := rd_v (opv_rep hs hc).1
 cases b
 ·exact wp_cond_false hb (hf rfl ρ a w hs)
 ·exact wp_cond_true hb (ht rfl ρ a w hs)
theorem ev_cond_n {c : Operand} {x y : Code} {b : Bool} (hc : opv S.T c = some (.p false [.c (.v (.bool !b))])) (ht : b = false → Ev P X x Q S) (hf : b = true → Ev P X y Q S) : Ev P X (.cond c x y) Q S :=
 ev_cond hc (fun h => ht (by simpa using h)) (fun h => hf (by simpa using h))
theorem evl_q {T : List (Nat × AV)} {B : List (Nat × Nat × List AC)} {R : List (Nat × Nat × Nat × List (List C))} {M : List (Nat × (Int → Option Value))} {d : Tmp} {op : Op} {ty : TypeId} {pos : String} {af : Array Edge} {av : AV} (hq : Quiet P X ⟨T, B, R, M⟩ op av) (hN : okD X d = true) (h : EvL P X ops rest Q ⟨(d, av) :: T, B, R, M⟩) :
  EvL P X ops (⟨some d, op, ty, pos, af, none⟩ :: rest) Q ⟨T, B, R, M⟩ := by
 intro ρ a w hs
 obtain ⟨v, h1, h2⟩ := hq ρ a w hs
 refine wpList_plain rfl fun K hK => ?_
 unfold Oper.wp
 rw [h2 _ _ _ _ _ w (Below.refl _ _)]
 exact hK _ _ (h ρ _ w (hs.put hN h1))
def gTmp (ops : Array Oper) (j : Nat) : Option Tmp :=
 match ops[j]? with
 | some o => o.dst
 | none => none
theorem wanted_of {o : Oper} {j : Nat} {want b : Bool} {t : Tmp} {ρ : Rho} {a : Act} {w : World} (hs : Sim X ρ S a w) (hg : o.guard = some (j, want)) (hj : gTmp ops j = some t) (hv : lk S.T t = some (.p false [.c (.v (.bool b))])) : Region.wanted o (yielded ops a.tmps) = (b == want) := by
 obtain ⟨v, h1, h2⟩ := hs.T t _ hv
 have hb : v = .bool b := rd_v h2.1
 unfold gTmp at hj
 split at hj
 ·rename_i o' ho
  simp only [Region.wanted, hg, yielded, ho, Option.bind_some, hj, h1, hb]
  cases b <;> cases want <;> rfl
 ·cases hj
theorem evl_qg {T : List (Nat × AV)} {B : List (Nat × Nat × List AC)} {R : List (Nat × Nat × Nat × List (List C))} {M : List (Nat × (Int → Option Value))} {d : Tmp} {op : Op} {ty : TypeId} {pos : String} {af : Array Edge} {j : Nat} {want b : Bool} {t : Tmp} {av : AV} (hj : gTmp ops j = some t) (hv : lk T t = some (.p false [.c (.v (.bool b))])) (hb : b = want) (hq : Quiet P X ⟨T, B, R, M⟩ op av) (hN : okD X d = true)
  (h : EvL P X ops rest Q ⟨(d, av) :: T, B, R, M⟩) : EvL P X ops (⟨some d, op, ty, pos, af, some (j, want)⟩ :: rest) Q ⟨T, B, R, M⟩ := by
 intro ρ a w hs
 obtain ⟨v, h1, h2⟩ := hq ρ a w hs
 refine wpList_step fun K hK => ?_
 rw [wanted_of hs rfl hj hv, hb, beq_self_eq_true, if_pos rfl]
 unfold Oper.wp
 rw [h2 _ _ _ _ _ w (Below.refl _ _)]
 exact hK _ _ (h ρ _ w (hs.put hN h1))
theorem evl_no {T : List (Nat × AV)} {B : List (Nat × Nat × List AC)} {R : List (Nat × Nat × Nat × List (List C))} {M : List (Nat × (Int → Option Value))} {d : Tmp} {op : Op} {ty : TypeId} {pos : String} {af : Array Edge} {j : Nat} {want b : Bool} {t : Tmp} (hj : gTmp ops j = some t) (hv : lk T t = some (.p false [.c (.v (.bool b))])) (hb : b = !want) (hN : okD X d = true)
  (h : EvL P X ops rest Q ⟨(d, .und) :: T, B, R, M⟩) : EvL P X ops (⟨some d, op, ty, pos, af, some (j, want)⟩ :: rest) Q ⟨T, B, R, M⟩ := by
 intro ρ a w hs
 refine wpList_step fun K hK => ?_
 rw [wanted_of hs rfl hj hv, hb, if_neg (by cases want <;> simp)]
 exact hK _ _ (h ρ _ w (hs.put hN rfl))
theorem wanted_und {o : Oper} {j : Nat} {want : Bool} {t : Tmp} {ρ : Rho} {a : Act} {w : World} (hs : Sim X ρ S a w) (hg : o.guard = some (j, want)) (hj : gTmp ops j = some t) (hv : lk S.T t = some .und) : Region.wanted o (yielded ops a.tmps) = false := by
 obtain ⟨v, h1, h2⟩ := hs.T t _ hv
 have hb : v = undef := h2
 unfold gTmp at hj
 split at hj
 ·rename_i o' ho
  simp only [Region.wanted, hg, yielded, ho, Option.bind_some, hj, h1, hb]
  cases want <;> rfl
 ·cases hj
theorem evl_noU {T : List (Nat × AV)} {B : List (Nat × Nat × List AC)} {R : List (Nat × Nat × Nat × List (List C))} {M : List (Nat × (Int → Option Value))} {d : Tmp} {op : Op} {ty : TypeId} {pos : String} {af : Array Edge} {j : Nat} {want : Bool} {t : Tmp} (hj : gTmp ops j = some t) (hv : lk T t = some .und) (hN : okD X d = true)
  (h : EvL P X ops rest Q ⟨(d, .und) :: T, B, R, M⟩) : EvL P X ops (⟨some d, op, ty, pos, af, some (j, want)⟩ :: rest) Q ⟨T, B, R, M⟩ := by
 intro ρ a w hs
 refine wpList_step fun K hK => ?_
 rw [wanted_und hs rfl hj hv, if_neg (by simp)]
 exact hK _ _ (h ρ _ w (hs.put hN rfl))
theorem evl_e {d : Option Tmp} {op : Op} {ty : TypeId} {pos : String} {af : Array Edge} {fr : Bool} (he : Eff P X S d op S' fr) (h : EvL P X ops rest Q S') : EvL P X ops (⟨d, op, ty, pos, af, none⟩ :: rest) Q S := by
 intro ρ a w hs
 obtain ⟨ρ', nx, v, w', h1, h2, h3, _⟩ := he ρ a w hs
 refine wpList_plain rfl fun K hK => ?_
 unfold Oper.wp
 rw [h1]
 rcases h2 with rfl | ⟨rfl, rfl⟩
 ·exact hK _ _ (h ρ' _ w' h3)
 ·exact hK _ _ (h ρ' _ w' h3)
theorem evl_part {d : Option Tmp} {op : Op} {ty : TypeId} {pos : String} {af : Array Edge} {j : Nat} {want b : Bool} {t : Tmp} (hj : gTmp ops j = some t) (hv : lk S.T t = some (.p false [.c (.v (.bool b))])) (ht : b = true → EvL P X ops (⟨d, op, ty, pos, af, some (j, want)⟩ :: rest) Q S)
  (hf : b = false → EvL P X ops (⟨d, op, ty, pos, af, some (j, want)⟩ :: rest) Q S) : EvL P X ops (⟨d, op, ty, pos, af, some (j, want)⟩ :: rest) Q S := by
 cases b
 ·exact hf rfl
 ·exact ht rfl
def prT (G : List Nat) : List (Nat × AV) → Option (List (Nat × AV))
  | [] => some []
  | (t, v) :: r => match G.elem t with
    | true => match prT G r with
      | some r' => some ((t, v) :: r')
      | none => none
    | false => prT G r
theorem prT_lk {G : List Nat} : ∀ {T T' : List (Nat × AV)}, prT G T = some T' → ∀ t av, lk T' t = some av → lk T t = some av
  | [], T', h, t, av, ht => by cases h; cases ht
  | (k, v) :: r, T', h, t, av, ht => by
    unfold prT at h
    split at h
    · rename_i hk
      split at h
      · rename_i r' hr
        cases h
        unfold lk at ht ⊢
        split
        · rename_i e; rw [if_pos e] at ht; exact ht
        · rename_i e; rw [if_neg e] at ht; exact prT_lk hr t av ht
      · cases h
    · rename_i hk
      have hr := prT_lk h t av ht
      unfold lk
      split
      · rename_i e
        subst e
        exfalso
        have key : ∀ {T T' : List (Nat × AV)}, prT G T = some T' → ∀ x ∈ T', G.elem x.1 = true := by
          intro T
          induction T with
          | nil => intro T' h x hx; cases h; simp at hx
          | cons y r ih =>
            obtain ⟨k, v⟩ := y
            intro T' h x hx
            unfold prT at h
            split at h
            · rename_i hk
              split at h
              · rename_i r' hr
                cases h
                rcases List.mem_cons.1 hx with rfl | hx
                · exact hk
                · exact ih hr x hx
              · cases h
            · exact ih h x hx
        have := key h _ (lk_mem ht)
        simp only at this
        rw [hk] at this
        cases this
      · exact hr
theorem ev_pr {T : List (Nat × AV)} {B : List (Nat × Nat × List AC)} {R : List (Nat × Nat × Nat × List (List C))} {M : List (Nat × (Int → Option Value))} {c : Code} (G : List Nat) {T' : List (Nat × AV)} (hp : prT G T = some T') (h : Ev P X c Q ⟨T', B, R, M⟩) : Ev P X c Q ⟨T, B, R, M⟩ :=
 fun ρ a w hs => h ρ a w (hs.weakT fun t av ht => .inl (prT_lk hp t av ht))
end
inductive RC where
 | v (x : Value)
 | s (ty n : Nat) (l : List (List C))
 | nil
 | c (x : C)
def Pc (H : Nat → Option Obj) (x : Bool × List C) (u : Value) : Prop := if x.1 then ∃ us : List Value, u = .agg us.toArray ∧ L2 (RdX H) x.2 us else L2 (RdX H) x.2 [u]
def OwR (H : Nat → Option Obj) (w : World) : RC → Value → List Nat → Prop
 | .c x, u, F => RdX H x u ∧ F = []
 | .v x, u, F => (u = x ∧ x.oneCell' = true) ∧ F = []
 | .nil, u, F => u = .slice none 0 0 ∧ F = []
 | .s ty n l, u, F => ∃ xs, OwS w ty n l u xs F
def OwRs (H : Nat → Option Obj) (w : World) : List RC → List Value → List Nat → Prop
 | [], [], F => F = []
 | r :: rs, u :: us, F => ∃ F1 F2, OwR H w r u F1 ∧ OwRs H w rs us F2 ∧ F = F1 ++ F2
 | _, _, _ => False
def OwP (H : Nat → Option Obj) (w : World) (p : Bool × List RC) (u : Value) (F : List Nat) : Prop := ∃ us : List Value, u = mkV p.1 us ∧ (p.1 = false → us.length = 1) ∧ OwRs H w p.2 us F
def OwPs (H : Nat → Option Obj) (w : World) : List (Bool × List RC) → List Value → List Nat → Prop
 | [], [], F => F = []
 | p :: ps, u :: us, F => ∃ F1 F2, OwP H w p u F1 ∧ OwPs H w ps us F2 ∧ F = F1 ++ F2
 | _, _, _ => False
def retV : List Value → Value
 | [x] => x
 | vs => .tuple vs.toArray
def PurePost (H : Nat → Option Obj) (res : List (Bool × List RC)) (w : World) (e : Ending) (w' : World) : Prop :=
 ∃ us F, e = .returned (retV us) ∧ OwPs H w' res us F ∧ F.Nodup ∧ (∀ b ∈ F, w.heap.size ≤ b) ∧ Below w.heap.size w w'
def Pure (P : Program) (f : FuncId) (args : List (Bool × List C)) (res : List (Bool × List RC)) : Prop :=
 ∀ (H : Nat → Option Obj) (w : World) (vs : List Value), (∀ b o, H b = some o → w.heap[b]? = some o) → L2 (Pc H) args vs → Calls P f vs.toArray w (PurePost H res w)
def argT : Nat → List (Bool × List C) → Option (List (Nat × AV))
 | _, [] => some []
 | k, (g, l) :: r => match argT (k + 1) r with
  | some r' => match mapOO l with
   | some l' => some ((k, .p g l') :: r')
   | none => none
  | none => none
theorem argT_rep {ρ : Rho} : ∀ {args : List (Bool × List C)} {k : Nat} {T : List (Nat × AV)} {vs : List Value}, argT k args = some T → L2 (Pc ρ.H) args vs → ∀ t av, lk T t = some av → k ≤ t ∧ ∃ v, vs[t - k]? = some v ∧ RepV ρ av v
  | [], k, T, vs, h, _, t, av, ht => by cases h; cases ht
  | (g, l) :: r, k, T, vs, h, hv, t, av, ht => by
    unfold argT at h
    split at h
    · rename_i r' hr
      split at h
      case h_2 => cases h
      rename_i l0 hl0
      obtain rfl := mapOO_eq hl0
      cases h
      match vs, hv with
      | v :: vs, hv =>
        unfold lk at ht
        split at ht
        · rename_i e
          subst e
          cases ht
          refine ⟨Nat.le_refl _, v, by simp, ?_⟩
          have h1 := hv.1
          have hcell : ∀ {l : List C} {us : List Value}, L2 (RdX ρ.H) l us → L2 (RepC ρ) (mapCO l) us := by
            intro l
            induction l with
            | nil => intro us h; match us, h with | [], _ => trivial
            | cons c l ih => intro us h; match us, h with | u :: us, h => exact ⟨h.1, ih h.2⟩
          unfold Pc at h1
          show RepP ρ (g, mapCO l) v
          unfold RepP
          split
          · rename_i hg
            rw [if_pos hg] at h1
            obtain ⟨us, rfl, h2⟩ := h1
            exact ⟨us, rfl, hcell h2⟩
          · rename_i hg
            rw [if_neg hg] at h1
            exact hcell h1
        · rename_i e
          obtain ⟨h1, v', h2, h3⟩ := argT_rep hr hv.2 t av ht
          refine ⟨by omega, v', ?_, h3⟩
          rw [show t - k = (t - (k + 1)) + 1 by omega]
          simpa using h2
    · cases h
theorem pure_intro {P : Program} {f : FuncId} {fn : Func} {c : Code} {args : List (Bool × List C)} {res : List (Bool × List RC)} {T : List (Nat × AV)} {N : Nat} (hf : P.funcs[f]? = some fn) (hb : fn.body = some c) (hN : fn.ntmps = N) (hl : Nat.ble args.length N = true) (hT : argT 0 args = some T)
  (h : ∀ H w, Ev P ⟨N, w, [], H, [], []⟩ c (bodyPost P fn (PurePost H res w)) ⟨T, [], [], []⟩) : Pure P f args res := by
 intro H w vs hH hv
 refine calls_of_wp hf hb ?_
 have hvl := hv.len
 have hle := Nat.le_of_ble_eq_true hl
 refine h H w ⟨H, fun _ => 0, fun _ => undef, fun _ => [], fun _ => []⟩ _ w ⟨⟨hH, by simp, by simp, by simp, by simp [feet], by simp [feet]⟩, fun t av ht => ?_, ⟨rfl, rfl⟩, ⟨by simp [hN]; omega, by simp⟩, Chg.refl _ _, by simp [feet]⟩
 obtain ⟨_, v, h1, h2⟩ := argT_rep (ρ := ⟨H, fun _ => 0, fun _ => undef, fun _ => [], fun _ => []⟩) hT hv t av ht
 refine ⟨v, ?_, h2⟩
 have hlt : t < vs.length := (List.getElem?_eq_some_iff.1 h1).1
 simp only [Nat.sub_zero] at h1
 show (vs.toArray ++ _)[t]? = some v
 rw [Array.getElem?_append_left (by simpa using hlt)]
 simpa using h1
def retP (TT : List (Nat × TI)) (S : St) : ResultVar → Option (Bool × List AC)
 | .tmp t => match lk S.T t with
  | some (.p g l) => some (g, l)
  | _ => none
 | .cell t ty => match qLoad TT S ty (.tmp t) with
  | some (.p g l) => some (g, l)
  | _ => none
def retPs (TT : List (Nat × TI)) (S : St) : List ResultVar → Option (List (Bool × List AC))
 | [] => some []
 | r :: rs => match retP TT S r with
  | some p => match retPs TT S rs with
   | some ps => some (p :: ps)
   | none => none
  | none => none
def eraR (r : Nat) : List (Nat × Nat × Nat × List (List C)) → List (Nat × Nat × Nat × List (List C))
  | [] => []
  | (k, x) :: R => match Nat.beq k r with
    | true => R
    | false => (k, x) :: eraR r R
def toRC (R : List (Nat × Nat × Nat × List (List C))) : List AC → Option (List RC × List (Nat × Nat × Nat × List (List C)))
 | [] => some ([], R)
 | .c (.v x) :: r => match toRC R r with
  | some (l, R') => some (.v x :: l, R')
  | none => none
 | .c .nil :: r => match toRC R r with
  | some (l, R') => some (.nil :: l, R')
  | none => none
 | .c x :: r => match toRC R r with
  | some (l, R') => some (.c x :: l, R')
  | none => none
 | .rt k :: r => match lk R k with
  | some (ty, n, l) => match toRC (eraR k R) r with
   | some (l', R') => some (.s ty n l :: l', R')
   | none => none
  | none => none
 | _ :: _ => none
def toRCs (R : List (Nat × Nat × Nat × List (List C))) : List (Bool × List AC) → Option (List (Bool × List RC))
  | [] => some []
  | (g, l) :: ps => match toRC R l with
    | some (l', R') => match toRCs R' ps with
      | some ps' => some ((g, l') :: ps')
      | none => none
    | none => none
section
variable {P : Program} {X : Cx} {S : St} {ρ : Rho} {a : Act} {w : World} {TT : List (Nat × TI)}
theorem oneV {x u : Value} {H : Nat → Option Obj} (h : RdX H (.v x) u) : u = x ∧ x.oneCell' = true := ⟨rd_v h, by rw [← rd_v h]; exact h.one⟩
theorem eraR_split {r : Nat} : ∀ {R : List (Nat × Nat × Nat × List (List C))} {x : Nat × Nat × List (List C)}, lk R r = some x → ∃ p q, R = p ++ (r, x) :: q ∧ eraR r R = p ++ q
  | (k, y) :: R, x, h => by
    unfold lk at h
    split at h
    · rename_i e
      subst e
      cases h
      exact ⟨[], R, rfl, by simp [eraR]⟩
    · rename_i e
      obtain ⟨p, q, rfl, h2⟩ := eraR_split h
      refine ⟨(k, y) :: p, q, rfl, ?_⟩
      have : Nat.beq k r = false := by
        cases hb : Nat.beq k r with
        | false => rfl
        | true => exact absurd (Nat.eq_of_beq_eq_true hb) e
      unfold eraR
      rw [this]
      simp [h2]
  | [], _, h => by cases h
theorem toRC_ok (hR : ∀ x ∈ S.R, OwS w x.2.1 x.2.2.1 x.2.2.2 (ρ.root x.1) (ρ.rows x.1) (ρ.foot x.1)) : ∀ {l : List AC} {R R' : List (Nat × Nat × Nat × List (List C))} {rs : List RC} {us : List Value}, (∀ x ∈ R, x ∈ S.R) → toRC R l = some (rs, R') → L2 (RepC ρ) l us → (R.flatMap fun x => ρ.foot x.1).Nodup →
  ∃ F, OwRs ρ.H w rs us F ∧ (∀ x ∈ R', x ∈ R) ∧ (F ++ R'.flatMap fun x => ρ.foot x.1).Nodup ∧ ∀ b ∈ F, b ∈ R.flatMap fun x => ρ.foot x.1
 | [], R, R', rs, us, _, h, hu, hn => by
  cases h
  match us, hu with
  | [], _ => exact ⟨[], rfl, fun x hx => hx, by simpa using hn, by simp⟩
 | x :: l, R, R', rs, us, hS, h, hu, hn => by
  match us, hu with
  | u :: us, hu =>
   unfold toRC at h
   split at h
   ·cases ‹_ :: _ = []›
   ·rename_i y r e
    cases e
    split at h
    ·rename_i l' R'' hr
     cases h
     obtain ⟨F, h1, h2, h3, h4⟩ := toRC_ok hR hS hr hu.2 hn
     exact ⟨F, ⟨[], F, ⟨oneV hu.1, rfl⟩, h1, rfl⟩, h2, h3, h4⟩
    ·cases h
   ·rename_i r e
    cases e
    split at h
    ·rename_i l' R'' hr
     cases h
     obtain ⟨F, h1, h2, h3, h4⟩ := toRC_ok hR hS hr hu.2 hn
     exact ⟨F, ⟨[], F, ⟨rd_nil hu.1, rfl⟩, h1, rfl⟩, h2, h3, h4⟩
    ·cases h
   ·rename_i y r _ _ e
    cases e
    split at h
    ·rename_i l' R'' hr
     cases h
     obtain ⟨F, h1, h2, h3, h4⟩ := toRC_ok hR hS hr hu.2 hn
     exact ⟨F, ⟨[], F, ⟨hu.1, rfl⟩, h1, rfl⟩, h2, h3, h4⟩
    ·cases h
   ·rename_i k r e
    cases e
    split at h
    ·rename_i ty n ll hk
     split at h
     ·rename_i l' R'' hr
      cases h
      obtain ⟨p, q, rfl, h5⟩ := eraR_split hk
      rw [h5] at hr
      have hn' : ((p ++ q).flatMap fun x => ρ.foot x.1).Nodup ∧ (ρ.foot k).Nodup ∧ ∀ b ∈ ρ.foot k, b ∉ (p ++ q).flatMap fun x => ρ.foot x.1 := by
       simp only [List.flatMap_append, List.flatMap_cons] at hn ⊢
       obtain ⟨n1, n2, n3⟩ := List.nodup_append.1 hn
       obtain ⟨n4, n5, n6⟩ := List.nodup_append.1 n2
       refine ⟨List.nodup_append.2 ⟨n1, n5, fun a ha b hb => n3 a ha b (List.mem_append_right _ hb)⟩, n4, fun b hb hm => ?_⟩
       rcases List.mem_append.1 hm with hm | hm
       ·exact n3 b hm b (List.mem_append_left _ hb) rfl
       ·exact n6 b hb b hm rfl
      have hS' : ∀ x ∈ p ++ q, x ∈ S.R := fun x hx => hS x (by rcases List.mem_append.1 hx with h9 | h9 <;> simp [h9])
      obtain ⟨F, h1, h2, h3, h4⟩ := toRC_ok hR hS' hr hu.2 hn'.1
      have ho := hR (k, ty, n, ll) (hS _ (by simp))
      refine ⟨ρ.foot k ++ F, ⟨ρ.foot k, F, ⟨ρ.rows k, by rw [show u = ρ.root k from hu.1.1]; exact ho⟩, h1, rfl⟩, fun x hx => ?_, ?_, fun b hb => ?_⟩
      ·have := h2 x hx
       rcases List.mem_append.1 this with h9 | h9 <;> simp [h9]
      ·rw [List.append_assoc]
       refine List.nodup_append.2 ⟨hn'.2.1, h3, fun a ha b hb e => ?_⟩
       subst e
       rcases List.mem_append.1 hb with hb | hb
       ·exact hn'.2.2 a ha (h4 a hb)
       ·obtain ⟨x, hx, hb⟩ := List.mem_flatMap.1 hb
        exact hn'.2.2 a ha (List.mem_flatMap.2 ⟨x, h2 x hx, hb⟩)
      ·simp only [List.flatMap_append, List.flatMap_cons]
       rcases List.mem_append.1 hb with hb | hb
       ·exact List.mem_append_right _ (List.mem_append_left _ hb)
       ·have := h4 b hb
        simp only [List.flatMap_append] at this
        rcases List.mem_append.1 this with h9 | h9
        ·exact List.mem_append_left _ h9
        ·exact List.mem_append_right _ (List.mem_append_right _ h9)
     ·cases h
    ·cases h
   ·cases h
end
section
variable {P : Program} {X : Cx} {S : St} {ρ : Rho} {a : Act} {w : World} {TT : List (Nat × TI)}
theorem toRCs_ok (hR : ∀ x ∈ S.R, OwS w x.2.1 x.2.2.1 x.2.2.2 (ρ.root x.1) (ρ.rows x.1) (ρ.foot x.1)) : ∀ {ps : List (Bool × List AC)} {R : List (Nat × Nat × Nat × List (List C))} {rs : List (Bool × List RC)} {us : List Value}, (∀ x ∈ R, x ∈ S.R) → toRCs R ps = some rs → L2 (RepP ρ) ps us → (R.flatMap fun x => ρ.foot x.1).Nodup →
    ∃ F, OwPs ρ.H w rs us F ∧ F.Nodup ∧ ∀ b ∈ F, b ∈ R.flatMap fun x => ρ.foot x.1
  | [], R, rs, us, _, h, hu, _ => by
    cases h
    match us, hu with
    | [], _ => exact ⟨[], rfl, by simp, by simp⟩
  | (g, l) :: ps, R, rs, us, hS, h, hu, hn => by
    match us, hu with
    | u :: us, hu =>
      unfold toRCs at h
      split at h
      · rename_i l' R' hr
        split at h
        · rename_i ps' hp
          cases h
          obtain ⟨vs, h1, h2, h3⟩ := rep_cells hu.1
          obtain ⟨F, k1, k2, k3, k4⟩ := toRC_ok hR hS hr h1 hn
          obtain ⟨G, m1, m2, m3⟩ := toRCs_ok hR (fun x hx => hS x (k2 x hx)) hp hu.2 (List.nodup_append.1 k3).2.1
          refine ⟨F ++ G, ⟨F, G, ⟨vs, h2, h3, k1⟩, m1, rfl⟩, List.nodup_append.2 ⟨(List.nodup_append.1 k3).1, m2, fun a ha b hb => (List.nodup_append.1 k3).2.2 a ha b (m3 b hb)⟩, fun b hb => ?_⟩
          rcases List.mem_append.1 hb with hb | hb
          · exact k4 b hb
          · obtain ⟨x, hx, hb⟩ := List.mem_flatMap.1 (m3 b hb)
            exact List.mem_flatMap.2 ⟨x, k2 x hx, hb⟩
        · cases h
      · cases h
def rvS (tmps : Array Value) : ResultVar → Sem Value
 | .tmp t => pure (tmps.getD t undef)
 | .cell a t => do loadVar t (← asAddr (tmps.getD a undef))
theorem retP_ok (hT : TTOk P TT) (hs : Sim X ρ S a w) {r : ResultVar} {p : Bool × List AC} (h : retP TT S r = some p) :
  ∃ u, RepP ρ p u ∧ (rvS a.tmps r).run P w = .ok u w := by
 unfold retP at h
 split at h
 ·rename_i t
  split at h
  ·rename_i g l ht
   cases h
   obtain ⟨v, h1, h2⟩ := hs.T t _ ht
   exact ⟨v, h2, by simp [rvS, Array.getD_eq_getD_getElem?, h1]⟩
  ·cases h
 ·rename_i t ty
  split at h
  ·rename_i g l ht
   cases h
   obtain ⟨v, h1, h2⟩ := q_load (P := P) (X := X) hT ht ρ a w hs
   have h3 := h2 none 0 "" #[] none w (Below.refl _ _)
   refine ⟨v, h1, ?_⟩
   have h4 : (Instr.loadAt ty (a.eval (.tmp t))).run P w = .ok v w := by
    simp only [execOp, Sem.run_bind, Sem.run_pure] at h3
    cases hr : (Instr.loadAt ty (a.eval (.tmp t))).run P w with
    | ok x w' => rw [hr] at h3; simp only [Result.andThen_ok, Result.ok.injEq, Next.value.injEq] at h3; rw [h3.1, h3.2]
    | halt x w' => rw [hr] at h3; cases h3
   have h5 : ∃ ad, a.eval (.tmp t) = .pointer (some ad) := by
    unfold qLoad at ht
    split at ht
    ·split at ht
     ·rename_i hx; exact ⟨_, (opv_rep hs hx).1⟩
     ·rename_i hx; obtain ⟨g, o, hp, _⟩ := (opv_rep hs hx).1; exact ⟨_, hp⟩
     ·cases ht
    ·cases ht
   obtain ⟨ad, had⟩ := h5
   have h6 : a.tmps.getD t undef = .pointer (some ad) := had
   rw [had] at h4
   show (do let x ← asAddr (a.tmps.getD t undef); loadVar ty x : Sem Value).run P w = _
   rw [h6]
   simpa [Instr.loadAt, Instr.sureAddr, asAddr] using h4
  ·cases h
theorem retPs_ok (hT : TTOk P TT) (hs : Sim X ρ S a w) : ∀ {rs : List ResultVar} {ps : List (Bool × List AC)}, retPs TT S rs = some ps →
  ∃ us : List Value, L2 (RepP ρ) ps us ∧ (rs.mapM (rvS a.tmps)).run P w = .ok us w
 | [], ps, h => by cases h; exact ⟨[], trivial, by simp⟩
 | r :: rs, ps, h => by
  unfold retPs at h
  split at h
  ·rename_i p hp
   split at h
   ·rename_i ps' hps
    cases h
    obtain ⟨u, h1, h2⟩ := retP_ok hT hs hp
    obtain ⟨us, h3, h4⟩ := retPs_ok hT hs hps
    refine ⟨u :: us, ⟨h1, h3⟩, ?_⟩
    simp only [List.mapM_cons, Sem.run_bind, h2, h4, Result.andThen_ok, Sem.run_pure]
   ·cases h
  ·cases h
theorem results_ok {fn : Func} (hT : TTOk P TT) (hs : Sim X ρ S a w) {ps : List (Bool × List AC)} (h : retPs TT S fn.results.toList = some ps) :
  ∃ us : List Value, L2 (RepP ρ) ps us ∧ (results fn a.tmps).run P w = .ok (retV us) w := by
 obtain ⟨us, h1, h2⟩ := retPs_ok hT hs h
 refine ⟨us, h1, ?_⟩
 have e : results fn a.tmps = (do let vs ← fn.results.mapM (rvS a.tmps); pure (if h : vs.size = 1 then vs[0] else .tuple vs)) := rfl
 rw [e, Array.mapM_eq_mapM_toList]
 have h3 : (List.toArray <$> fn.results.toList.mapM (rvS a.tmps)).run P w = .ok us.toArray w := by
  simp [h2]
 simp only [Sem.run_bind, h3, Result.andThen_ok, Sem.run_pure]
 congr 1
 match us with
 | [] => rfl
 | [x] => rfl
 | x :: y :: r => simp [retV]
theorem ret_pure {fn : Func} {N : Nat} {w0 : World} {H : Nat → Option Obj} {ps : List (Bool × List AC)} {res : List (Bool × List RC)} (hT : TTOk P TT) (h1 : retPs TT S fn.results.toList = some ps) (h2 : toRCs S.R ps = some res) :
  EvE ⟨N, w0, [], H, [], []⟩ .ret (bodyPost P fn (PurePost H res w0)) S := by
 intro ρ a w hs
 obtain ⟨us, h3, h4⟩ := results_ok hT hs h1
 have hnd : (S.R.flatMap fun x => ρ.foot x.1).Nodup := by
  have := hs.hp.nd
  unfold feet at this
  exact (List.nodup_append.1 (List.nodup_append.1 this).2.1).1
 obtain ⟨F, h5, h6, h7⟩ := toRCs_ok hs.hp.R (fun x hx => hx) h2 h3 hnd
 rw [hs.df.2] at h5
 refine ⟨hs.df.1, _, h4, us, F, rfl, h5, h6, fun b hb => ?_, hs.fr.below⟩
 have := hs.ft b (List.mem_append_right _ (List.mem_append_left _ (h7 b hb)))
 simpa using this
theorem ret_pure' {fn : Func} {N : Nat} {w0 : World} {H : Nat → Option Obj} {ps : List (Bool × List AC)} {res res' : List (Bool × List RC)} (hT : TTOk P TT) (h1 : retPs TT S fn.results.toList = some ps) (h2 : toRCs S.R ps = some res') (he : res' = res) :
 EvE ⟨N, w0, [], H, [], []⟩ .ret (bodyPost P fn (PurePost H res w0)) S := by subst he; exact ret_pure hT h1 h2
def RcLe : RC → RC → Prop
 | .nil, .s _ _ l => l = []
 | x, y => x = y
def RpLe : List (Bool × List RC) → List (Bool × List RC) → Prop := L2 fun p q => p.1 = q.1 ∧ L2 RcLe p.2 q.2
theorem RcLe.ow {H : Nat → Option Obj} {r q : RC} {u : Value} {F : List Nat} (h : RcLe r q) (ho : OwR H w r u F) : OwR H w q u F := by
 cases r with
 | nil =>
  cases q with
  | s ty n l =>
   have h : l = [] := h
   subst h
   obtain ⟨rfl, rfl⟩ := ho
   exact ⟨[], [], ⟨World.ownsRow_nil w 0 ty n, by simp, trivial⟩, rfl⟩
  | _ => first | (cases h; exact ho) | cases h
 | _ => cases q <;> first | (cases h; exact ho) | cases h
theorem RcLe.ows {H : Nat → Option Obj} : ∀ {rs qs : List RC} {us : List Value} {F : List Nat}, L2 RcLe rs qs → OwRs H w rs us F → OwRs H w qs us F
 | [], [], _, _, _, ho => ho
 | r :: rs, q :: qs, [], _, _, ho => ho.elim
 | r :: rs, q :: qs, u :: us, F, h, ho => let ⟨F1, F2, h1, h2, h3⟩ := ho; ⟨F1, F2, RcLe.ow h.1 h1, RcLe.ows h.2 h2, h3⟩
 | [], _ :: _, _, _, h, _ => h.elim
 | _ :: _, [], _, _, h, _ => h.elim
theorem RpLe.ow {H : Nat → Option Obj} : ∀ {rs qs : List (Bool × List RC)} {us : List Value} {F : List Nat}, RpLe rs qs → OwPs H w rs us F → OwPs H w qs us F
  | [], [], _, _, _, ho => ho
  | (g, l) :: rs, (g', l') :: qs, [], _, _, ho => ho.elim
  | (g, l) :: rs, (g', l') :: qs, u :: us, F, h, ho => by
    obtain ⟨⟨e, h1⟩, h2⟩ := h
    have e : g = g' := e
    subst e
    obtain ⟨F1, F2, ⟨vs, e1, e2, e3⟩, h3, h4⟩ := ho
    exact ⟨F1, F2, ⟨vs, e1, e2, RcLe.ows h1 e3⟩, RpLe.ow h2 h3, h4⟩
  | [], _ :: _, _, _, h, _ => h.elim
  | _ :: _, [], _, _, h, _ => h.elim
theorem ret_pureN {fn : Func} {N : Nat} {w0 : World} {H : Nat → Option Obj} {ps : List (Bool × List AC)} {res res' : List (Bool × List RC)} (hT : TTOk P TT) (h1 : retPs TT S fn.results.toList = some ps) (h2 : toRCs S.R ps = some res') (he : RpLe res' res) :
  EvE ⟨N, w0, [], H, [], []⟩ .ret (bodyPost P fn (PurePost H res w0)) S := fun ρ a w hs => by
 obtain ⟨h3, v, h4, us, F, e, h5, h6⟩ := ret_pure hT h1 h2 ρ a w hs
 exact ⟨h3, v, h4, us, F, e, he.ow h5, h6⟩
def chkF (P : Program) (f : FuncId) : Bool :=
 match P.funcs[f]? with
 | some fn => !(fn.name == "runtime.NumGoroutine") && fn.body.isSome
 | none => false
theorem run_callc {f : FuncId} {c : Operand} (h : chkF P f = true) (ρ : Operand → Value) (xs : Array Operand) (tys : Array TypeId) (d : Option Tmp) (ty : TypeId) (pos : String) (af : Array Edge) (g : Option (Nat × Bool)) (hf : ρ c = .func (.func f) #[] #[]) :
  (execOp ρ ⟨d, .call ⟨.value c, xs, tys⟩, ty, pos, af, g⟩).run P w = .ok (.enter f (xs.map ρ)) w := by
 unfold chkF at h
 split at h
 ·rename_i fn hfn
  simp only [Bool.and_eq_true, Bool.not_eq_true', beq_eq_false_iff_ne, ne_eq] at h
  obtain ⟨h1, h2⟩ := h
  obtain ⟨c, hc⟩ := Option.isSome_iff_exists.1 h2
  simp [execOp, resolve, Deferred.ofValue, hf, invoke, callFunc, hfn, h1, hc]
 ·cases h
theorem run_call {f : FuncId} (h : chkF P f = true) (ρ : Operand → Value) (xs : Array Operand) (tys : Array TypeId) (d : Option Tmp) (ty : TypeId) (pos : String) (af : Array Edge) (g : Option (Nat × Bool)) (hf : ρ (.func f) = .func (.func f) #[] #[]) :
 (execOp ρ ⟨d, .call ⟨.value (.func f), xs, tys⟩, ty, pos, af, g⟩).run P w = .ok (.enter f (xs.map ρ)) w := run_callc h ρ xs tys d ty pos af g hf
def RsC (S : St) : AC → C → Prop
 | .c x, y => y = x
 | .rt r, y => ∃ ty n l, lk S.R r = some (ty, n, l) ∧ y = .s n l
 | .sub r n k j, y => ∃ ty l cs, lk S.R r = some (ty, n, l) ∧ l[k]? = some cs ∧ cs[j]? = some y
 | _, _ => False
def RsA (S : St) (xs : List Operand) (args : List (Bool × List C)) : Prop := L2 (fun x p => ∃ l, opv S.T x = some (.p p.1 l) ∧ L2 (RsC S) l p.2) xs args
def rsL (R : List (Nat × Nat × Nat × List (List C))) : List AC → Option (List C)
 | [] => some []
 | .c x :: r => match rsL R r with
  | some l => some (x :: l)
  | none => none
 | .rt k :: r => match lk R k with
  | some (_, n, y) => match rsL R r with
   | some l => some (.s n y :: l)
   | none => none
  | none => none
 | .sub k n i j :: r => match lk R k with
  | some (_, n', y) => match Nat.beq n' n with
   | true => match nthO i y with
    | some cs => match nthO j cs with
     | some z => match rsL R r with
      | some l => some (z :: l)
      | none => none
     | none => none
    | none => none
   | false => none
  | none => none
 | _ :: _ => none
def rsArgs (S : St) : List Operand → Option (List (Bool × List C))
 | [] => some []
 | x :: r => match opv S.T x with
  | some (.p g l) => match rsL S.R l with
   | some l' => match rsArgs S r with
    | some r' => some ((g, l') :: r')
    | none => none
   | none => none
  | _ => none
theorem rsL_ok : ∀ {l : List AC} {l' : List C}, rsL S.R l = some l' → L2 (RsC S) l l'
 | [], l', h => by cases h; trivial
 | x :: r, l', h => by
  unfold rsL at h
  split at h
  ·cases ‹_ :: _ = []›
  ·rename_i y r' e
   cases e
   split at h
   ·rename_i l hl; cases h; exact ⟨rfl, rsL_ok hl⟩
   ·cases h
  ·rename_i k r' e
   cases e
   split at h
   ·rename_i ty n y hk
    split at h
    ·rename_i l hl; cases h; exact ⟨⟨ty, n, y, hk, rfl⟩, rsL_ok hl⟩
    ·cases h
   ·cases h
  ·rename_i k n i j r' e
   cases e
   split at h
   ·rename_i ty n' y hk
    split at h
    ·rename_i hb
     obtain rfl := Nat.eq_of_beq_eq_true hb
     split at h
     ·rename_i cs hcs
      split at h
      ·rename_i z hz
       split at h
       ·rename_i l hl; cases h; exact ⟨⟨ty, y, cs, hk, nthO_eq hcs, nthO_eq hz⟩, rsL_ok hl⟩
       ·cases h
      ·cases h
     ·cases h
    ·cases h
   ·cases h
  ·cases h
theorem rs_of : ∀ {xs : List Operand} {args : List (Bool × List C)}, rsArgs S xs = some args → RsA S xs args
 | [], _, h => by cases h; trivial
 | x :: r, args, h => by
  unfold rsArgs at h
  split at h
  ·rename_i g l hx
   split at h
   ·rename_i l' hl
    split at h
    ·rename_i r' hr; cases h; exact ⟨⟨l, hx, rsL_ok hl⟩, rs_of hr⟩
    ·cases h
   ·cases h
  ·cases h
theorem flat_at {n k j : Nat} {c : C} : ∀ {l : List (List C)} {cs : List C}, (∀ cs ∈ l, cs.length = n) → l[k]? = some cs → cs[j]? = some c → l.flatten[k * n + j]? = some c := by
 induction k with
 | zero =>
  intro l cs hall h hj
  match l, h with
  | a :: r, h =>
   simp only [List.getElem?_cons_zero, Option.some.injEq] at h
   subst h
   rw [List.flatten_cons, Nat.zero_mul, Nat.zero_add, List.getElem?_append_left (List.getElem?_eq_some_iff.1 hj).1]
   exact hj
 | succ k ih =>
  intro l cs hall h hj
  match l, h with
  | a :: r, h =>
   have ha : a.length = n := hall a (by simp)
   simp only [List.getElem?_cons_succ] at h
   rw [List.flatten_cons, List.getElem?_append_right (by rw [Nat.succ_mul]; omega), show (k + 1) * n + j - a.length = k * n + j by rw [Nat.succ_mul]; omega]
   exact ih (fun cs hcs => hall cs (by simp [hcs])) h hj
theorem RsC.rd (hp : Hp ρ S w) {x : AC} {y : C} {u : Value} (hu : RepC ρ x u) (h : RsC S x y) : RdX (fun b => w.heap[b]?) y u := by
 cases x with
 | c z => rw [show y = z from h]; exact RdX.mono hp.H hu
 | rt r =>
  obtain ⟨ty, n, l, h1, rfl⟩ := h
  rw [show u = ρ.root r from hu.1]
  exact (hp.R _ (lk_mem h1)).c.read fun b _ => rfl
 | sub r n k j =>
  obtain ⟨ty, l, cs, h1, h2, h3⟩ := h
  obtain ⟨Fs, ⟨h4, h5, h6⟩, _⟩ := hp.R _ (lk_mem h1)
  obtain ⟨x, F, h7, _, h8⟩ := h6.get (flat_at h5 h2 h3)
  rw [hu.1] at h7
  cases h7
  exact h8.read fun b _ => rfl
 | _ => exact h.elim
theorem RsA.rd (hs : Sim X ρ S a w) : ∀ {xs : List Operand} {args : List (Bool × List C)}, RsA S xs args → L2 (Pc fun b => w.heap[b]?) args (xs.map a.eval)
 | [], [], _ => trivial
 | x :: xs, (g, l') :: args, h => by
  obtain ⟨⟨l, h1, h2⟩, h3⟩ := h
  refine ⟨?_, RsA.rd hs h3⟩
  have h4 := opv_rep hs h1
  have hcell : ∀ {l : List AC} {us : List Value} {l' : List C}, L2 (RepC ρ) l us → L2 (RsC S) l l' → L2 (RdX fun b => w.heap[b]?) l' us := by
   intro l
   induction l with
   | nil => intro us l' h k; match us, l', h, k with | [], [], _, _ => trivial
   | cons c l ih => intro us l' h k; match us, l', h, k with | u :: us, y :: l', h, k => exact ⟨RsC.rd hs.hp h.1 k.1, ih h.2 k.2⟩
  have h5 : RepP ρ (g, l) (a.eval x) := h4
  unfold RepP at h5
  unfold Pc
  split
  ·rename_i hg
   rw [if_pos hg] at h5
   obtain ⟨us, hu, h6⟩ := h5
   exact ⟨us, hu, hcell h6 h2⟩
  ·rename_i hg
   rw [if_neg hg] at h5
   exact hcell h5 h2
 | [], _ :: _, h => h.elim
 | _ :: _, [], h => h.elim
theorem feet_newroot {nm ty n : Nat} {l : List (List C)} {u : Value} {xs : List Value} {F : List Nat} (hf : freshR nm S = true) : feet (ρ.setRoot nm u xs F) ⟨S.T, S.B, (nm, ty, n, l) :: S.R, S.M⟩ = S.B.map (fun x => ρ.box x.1) ++ (F ++ S.R.flatMap (fun x => ρ.foot x.1) ++ S.M.map fun x => ρ.box x.1) := by
 simp only [freshR, Bool.and_eq_true] at hf
 have e : S.R.flatMap (fun x => (ρ.setRoot nm u xs F).foot x.1) = S.R.flatMap fun x => ρ.foot x.1 := by
  have key : ∀ R : List (Nat × Nat × Nat × List (List C)), (∀ x ∈ R, x.1 ≠ nm) → R.flatMap (fun x => (ρ.setRoot nm u xs F).foot x.1) = R.flatMap fun x => ρ.foot x.1 := by
   intro R
   induction R with
   | nil => intro _; rfl
   | cons x R ih =>
    intro h
    rw [List.flatMap_cons, List.flatMap_cons, ih fun y hy => h y (by simp [hy])]
    congr 1
    show (if x.1 = nm then F else ρ.foot x.1) = _
    rw [if_neg (h x (by simp))]
  exact key _ fun x hx => noK_mem hf.2.2 x hx
 unfold feet
 simp only [List.flatMap_cons, e]
 show _ ++ ((if nm = nm then F else ρ.foot nm) ++ _ ++ _) = _
 rw [if_pos rfl]
 rfl
theorem Sim.newroot (h : Sim X ρ S a w) {nm ty n : Nat} {l : List (List C)} {u : Value} {xs : List Value} {F : List Nat} (ho : OwS w ty n l u xs F) (hn : F.Nodup) (hF : ∀ b ∈ F, b ∉ feet ρ S ∧ ρ.H b = none ∧ (b ∈ X.F0 ∨ X.w0.heap.size ≤ b)) (hf : freshR nm S = true) :
  Sim X (ρ.setRoot nm u xs F) ⟨S.T, S.B, (nm, ty, n, l) :: S.R, S.M⟩ a w := by
 have hfe := feet_newroot (ρ := ρ) (ty := ty) (n := n) (l := l) (u := u) (xs := xs) (F := F) hf
 simp only [freshR, Bool.and_eq_true] at hf
 have hmem : ∀ b, b ∈ S.B.map (fun x => ρ.box x.1) ++ (F ++ S.R.flatMap (fun x => ρ.foot x.1) ++ S.M.map fun x => ρ.box x.1) → b ∈ F ∨ b ∈ feet ρ S := by
  intro b hb
  unfold feet
  simp only [List.mem_append] at hb ⊢
  rcases hb with hb | (hb | hb) | hb
  ·exact .inr (.inl hb)
  ·exact .inl hb
  ·exact .inr (.inr (.inl hb))
  ·exact .inr (.inr (.inr hb))
 refine ⟨⟨h.hp.H, fun x hx => ?_, fun x hx => ?_, fun x hx => h.hp.M x hx, ?_, fun b hb => ?_⟩, Sim.tr (m := mentR nm) (X := X) (fun x v hx hv => hv.setRoot hx) hf.1 h.T, h.df, h.sz, h.fr, fun b hb => ?_⟩
 ·obtain ⟨vs, h1, h2⟩ := h.hp.B x hx
  exact ⟨vs, h1, h2.monoM fun a b ha hab => hab.setRoot (noL_mem (noBs_mem hf.2.1 x hx) a ha)⟩
 ·rcases List.mem_cons.1 hx with rfl | hx
  ·show OwS w ty n l (if nm = nm then u else ρ.root nm) (if nm = nm then xs else ρ.rows nm) (if nm = nm then F else ρ.foot nm)
   rw [if_pos rfl, if_pos rfl, if_pos rfl]; exact ho
  ·have hne : x.1 ≠ nm := noK_mem hf.2.2 x hx
   show OwS w x.2.1 x.2.2.1 x.2.2.2 (if x.1 = nm then u else ρ.root x.1) (if x.1 = nm then xs else ρ.rows x.1) (if x.1 = nm then F else ρ.foot x.1)
   rw [if_neg hne, if_neg hne, if_neg hne]; exact h.hp.R x hx
 ·rw [hfe]
  have hnd := h.hp.nd
  unfold feet at hnd
  obtain ⟨n1, n2, n3⟩ := List.nodup_append.1 hnd
  have hFn : ∀ b ∈ F, b ∉ feet ρ S := fun b hb => (hF b hb).1
  unfold feet at hFn
  refine List.nodup_append.2 ⟨n1, ?_, fun a ha b hb e => ?_⟩
  ·rw [List.append_assoc]
   exact List.nodup_append.2 ⟨hn, n2, fun a ha b hb e => hFn a ha (List.mem_append_right _ (e ▸ hb))⟩
  ·subst e
   rw [List.append_assoc] at hb
   rcases List.mem_append.1 hb with hb | hb
   ·exact hFn a hb (List.mem_append_left _ ha)
   ·exact n3 a ha a hb rfl
 ·rw [hfe] at hb
  rcases hmem b hb with hb | hb
  ·exact (hF b hb).2.1
  ·exact h.hp.dj b hb
 ·rw [hfe] at hb
  rcases hmem b hb with hb | hb
  ·exact (hF b hb).2.2
  ·exact h.ft b hb
def impC (S : St) : Nat → List RC → Option (List AC × St × Nat)
 | nm, [] => some ([], S, nm)
 | nm, .c x :: r => match impC S nm r with
  | some (l, S', m) => some (.c x :: l, S', m)
  | none => none
 | nm, .v x :: r => match impC S nm r with
  | some (l, S', m) => some (.c (.v x) :: l, S', m)
  | none => none
 | nm, .nil :: r => match impC S nm r with
  | some (l, S', m) => some (.c .nil :: l, S', m)
  | none => none
 | nm, .s ty n y :: r => match freshR nm S with
  | true => match impC ⟨S.T, S.B, (nm, ty, n, y) :: S.R, S.M⟩ (nm + 1000) r with
   | some (l, S', m) => some (.rt nm :: l, S', m)
   | none => none
  | false => none
def imC (T : List (Nat × AV)) (B : List (Nat × Nat × List AC)) (R : List (Nat × Nat × Nat × List (List C))) : Nat → List RC → Option (List AC × List (Nat × Nat × Nat × List (List C)) × Nat)
 | nm, [] => some ([], R, nm)
 | nm, .c x :: r => match imC T B R nm r with
  | some (l, R', m) => some (.c x :: l, R', m)
  | none => none
 | nm, .v x :: r => match imC T B R nm r with
  | some (l, R', m) => some (.c (.v x) :: l, R', m)
  | none => none
 | nm, .nil :: r => match imC T B R nm r with
  | some (l, R', m) => some (.c .nil :: l, R', m)
  | none => none
 | nm, .s ty n y :: r => match noT (mentR nm) T && (noBs (mentR nm) B && noK nm R) with
  | true => match imC T B ((nm, ty, n, y) :: R) (nm + 1000) r with
   | some (l, R', m) => some (.rt nm :: l, R', m)
   | none => none
  | false => none
theorem imC_eq {T : List (Nat × AV)} {B : List (Nat × Nat × List AC)} {M : List (Nat × (Int → Option Value))} : ∀ {rs : List RC} {R R' : List (Nat × Nat × Nat × List (List C))} {nm m : Nat} {l : List AC}, imC T B R nm rs = some (l, R', m) → impC ⟨T, B, R, M⟩ nm rs = some (l, ⟨T, B, R', M⟩, m)
 | [], R, R', nm, m, l, h => by cases h; rfl
 | .c x :: r, R, R', nm, m, l, h => by
  unfold imC at h
  split at h
  ·rename_i l' R2 m2 hi
   cases h
   unfold impC
   rw [imC_eq hi]
  ·cases h
 | .v x :: r, R, R', nm, m, l, h => by
  unfold imC at h
  split at h
  ·rename_i l' R2 m2 hi
   cases h
   unfold impC
   rw [imC_eq hi]
  ·cases h
 | .nil :: r, R, R', nm, m, l, h => by
  unfold imC at h
  split at h
  ·rename_i l' R2 m2 hi
   cases h
   unfold impC
   rw [imC_eq hi]
  ·cases h
 | .s ty n y :: r, R, R', nm, m, l, h => by
  unfold imC at h
  split at h
  ·rename_i hf
   split at h
   ·rename_i l' R2 m2 hi
    cases h
    unfold impC
    have hf' : freshR nm ⟨T, B, R, M⟩ = true := hf
    rw [hf']
    simp only
    rw [imC_eq hi]
   ·cases h
  ·cases h
def Keeps (ρ ρ' : Rho) (S : St) : Prop := ρ'.H = ρ.H ∧ ρ'.box = ρ.box ∧ ∀ x ∈ S.R, ρ'.root x.1 = ρ.root x.1 ∧ ρ'.rows x.1 = ρ.rows x.1 ∧ ρ'.foot x.1 = ρ.foot x.1
theorem impC_ok : ∀ {rs : List RC} {S S' : St} {nm m : Nat} {l : List AC} {us : List Value} {F : List Nat} {ρ : Rho}, impC S nm rs = some (l, S', m) → Sim X ρ S a w → OwRs ρ.H w rs us F → F.Nodup → (∀ b ∈ F, b ∉ feet ρ S ∧ ρ.H b = none ∧ (b ∈ X.F0 ∨ X.w0.heap.size ≤ b)) →
  ∃ ρ', Sim X ρ' S' a w ∧ L2 (RepC ρ') l us ∧ Keeps ρ ρ' S ∧ (∀ b ∈ feet ρ' S', b ∈ F ∨ b ∈ feet ρ S) ∧ (∀ x ∈ S.R, x ∈ S'.R) ∧ S'.T = S.T ∧ S'.B = S.B ∧ S'.M = S.M ∧ ∀ y ∈ l, (∃ z, y = .c z) ∨ ∃ x ∈ S'.R, y = .rt x.1
 | [], S, S', nm, m, l, us, F, ρ, h, hs, hu, _, _ => by
  cases h
  match us, hu with
  | [], hu => exact ⟨ρ, hs, trivial, ⟨rfl, rfl, fun _ _ => ⟨rfl, rfl, rfl⟩⟩, fun b hb => .inr hb, fun _ h => h, rfl, rfl, rfl, by simp⟩
 | r :: rs, S, S', nm, m, l, us, F, ρ, h, hs, hu, hn, hF => by
  match us, hu with
  | u :: us, hu =>
   obtain ⟨F1, F2, h1, h2, rfl⟩ := hu
   cases r with
   | c x =>
    unfold impC at h
    split at h
    ·rename_i l' S'' m' hi
     cases h
     have e1 : F1 = [] := h1.2
     subst e1
     obtain ⟨ρ', k1, k2, k3, k4, k5, k6, k7, k8, k9⟩ := impC_ok hi hs h2 (by simpa using hn) (fun b hb => hF b (by simpa using hb))
     refine ⟨ρ', k1, ⟨by show RdX ρ'.H x u; rw [k3.1]; exact h1.1, k2⟩, k3, by simpa using k4, k5, k6, k7, k8, fun y hy => ?_⟩
     rcases List.mem_cons.1 hy with rfl | hy
     ·exact .inl ⟨_, rfl⟩
     ·exact k9 y hy
    ·cases h
   | v x =>
    unfold impC at h
    split at h
    ·rename_i l' S'' m' hi
     cases h
     have e1 : F1 = [] := h1.2
     subst e1
     obtain ⟨ρ', k1, k2, k3, k4, k5, k6, k7, k8, k9⟩ := impC_ok hi hs h2 (by simpa using hn) (fun b hb => hF b (by simpa using hb))
     refine ⟨ρ', k1, ⟨⟨0, h1.1⟩, k2⟩, k3, by simpa using k4, k5, k6, k7, k8, fun y hy => ?_⟩
     rcases List.mem_cons.1 hy with rfl | hy
     ·exact .inl ⟨_, rfl⟩
     ·exact k9 y hy
    ·cases h
   | nil =>
    unfold impC at h
    split at h
    ·rename_i l' S'' m' hi
     cases h
     have e1 : F1 = [] := h1.2
     subst e1
     obtain ⟨ρ', k1, k2, k3, k4, k5, k6, k7, k8, k9⟩ := impC_ok hi hs h2 (by simpa using hn) (fun b hb => hF b (by simpa using hb))
     refine ⟨ρ', k1, ⟨⟨0, h1.1⟩, k2⟩, k3, by simpa using k4, k5, k6, k7, k8, fun y hy => ?_⟩
     rcases List.mem_cons.1 hy with rfl | hy
     ·exact .inl ⟨_, rfl⟩
     ·exact k9 y hy
    ·cases h
   | s ty n y =>
    unfold impC at h
    split at h
    ·rename_i hf
     split at h
     ·rename_i l' S'' m' hi
      cases h
      obtain ⟨xs, ho⟩ := h1
      obtain ⟨n1, n2, n3⟩ := List.nodup_append.1 hn
      have h2 : OwRs (ρ.setRoot nm u xs F1).H w rs us F2 := h2
      have hs1 := hs.newroot ho n1 (fun b hb => hF b (List.mem_append_left _ hb)) hf
      have hfe := feet_newroot (ρ := ρ) (ty := ty) (n := n) (l := y) (u := u) (xs := xs) (F := F1) hf
      have hmem : ∀ b, b ∈ feet (ρ.setRoot nm u xs F1) ⟨S.T, S.B, (nm, ty, n, y) :: S.R, S.M⟩ → b ∈ F1 ∨ b ∈ feet ρ S := by
       intro b hb
       rw [hfe] at hb
       unfold feet
       simp only [List.mem_append] at hb ⊢
       rcases hb with hb | (hb | hb) | hb
       ·exact .inr (.inl hb)
       ·exact .inl hb
       ·exact .inr (.inr (.inl hb))
       ·exact .inr (.inr (.inr hb))
      obtain ⟨ρ', k1, k2, k3, k4, k5, k6, k7, k8, k9⟩ := impC_ok hi hs1 h2 n2 (fun b hb => by
       obtain ⟨g1, g2, g3⟩ := hF b (List.mem_append_right _ hb)
       refine ⟨fun hm => ?_, g2, g3⟩
       rcases hmem b hm with hm | hm
       ·exact n3 b hm b hb rfl
       ·exact g1 hm)
      have hone : u.oneCell' = true := by
       obtain ⟨ao, cap, hu, _⟩ := own_slice ho
       rw [hu]; rfl
      refine ⟨ρ', k1, ⟨⟨?_, hone⟩, k2⟩, ⟨k3.1, k3.2.1, fun x hx => ?_⟩, fun b hb => ?_, fun x hx => k5 x (by simp [hx]), k6, k7, k8, fun z hz => ?_⟩
      ·have := (k3.2.2 (nm, ty, n, y) (by simp)).1
       rw [this]
       show u = if nm = nm then u else _
       rw [if_pos rfl]
      ·have hne : x.1 ≠ nm := by
        simp only [freshR, Bool.and_eq_true] at hf
        exact noK_mem hf.2.2 x hx
       obtain ⟨e1, e2, e3⟩ := k3.2.2 x (by simp [hx])
       refine ⟨e1.trans ?_, e2.trans ?_, e3.trans ?_⟩
       ·show (if x.1 = nm then _ else _) = _; rw [if_neg hne]
       ·show (if x.1 = nm then _ else _) = _; rw [if_neg hne]
       ·show (if x.1 = nm then _ else _) = _; rw [if_neg hne]
      ·rcases k4 b hb with hb | hb
       ·exact .inl (List.mem_append_right _ hb)
       ·rcases hmem b hb with hb | hb
        ·exact .inl (List.mem_append_left _ hb)
        ·exact .inr hb
      ·rcases List.mem_cons.1 hz with rfl | hz
       ·exact .inr ⟨(nm, ty, n, y), k5 _ (by simp), rfl⟩
       ·exact k9 z hz
     ·cases h
    ·cases h
def impPs (S : St) : Nat → List (Bool × List RC) → Option (List (Bool × List AC) × St)
 | _, [] => some ([], S)
 | nm, (g, l) :: ps => match impC S nm l with
  | some (l', S', m) => match impPs S' m ps with
   | some (ps', S'') => some ((g, l') :: ps', S'')
   | none => none
  | none => none
theorem impPs_ok : ∀ {ps : List (Bool × List RC)} {S S' : St} {nm : Nat} {l : List (Bool × List AC)} {us : List Value} {F : List Nat} {ρ : Rho}, impPs S nm ps = some (l, S') → Sim X ρ S a w → OwPs ρ.H w ps us F → F.Nodup → (∀ b ∈ F, b ∉ feet ρ S ∧ ρ.H b = none ∧ (b ∈ X.F0 ∨ X.w0.heap.size ≤ b)) →
    ∃ ρ', Sim X ρ' S' a w ∧ L2 (RepP ρ') l us ∧ Keeps ρ ρ' S ∧ S'.T = S.T ∧ S'.B = S.B ∧ S'.M = S.M
  | [], S, S', nm, l, us, F, ρ, h, hs, hu, _, _ => by
    cases h
    match us, hu with
    | [], hu => exact ⟨ρ, hs, trivial, ⟨rfl, rfl, fun _ _ => ⟨rfl, rfl, rfl⟩⟩, rfl, rfl, rfl⟩
  | (g, p) :: ps, S, S', nm, l, us, F, ρ, h, hs, hu, hn, hF => by
    match us, hu with
    | u :: us, hu =>
      obtain ⟨F1, F2, ⟨vs, e1, e2, e3⟩, h2, rfl⟩ := hu
      unfold impPs at h
      split at h
      · rename_i l' S1 m hi
        split at h
        · rename_i ps' S2 hp
          cases h
          obtain ⟨n1, n2, n3⟩ := List.nodup_append.1 hn
          obtain ⟨ρ1, k1, k2, k3, k4, k5, k6, k7, k8, k9⟩ := impC_ok hi hs e3 n1 (fun b hb => hF b (List.mem_append_left _ hb))
          have h2 : OwPs ρ1.H w ps us F2 := by rw [k3.1]; exact h2
          obtain ⟨ρ2, j1, j2, j3, j4, j5, j6⟩ := impPs_ok hp k1 h2 n2 (fun b hb => by
            obtain ⟨g1, g2, g3⟩ := hF b (List.mem_append_right _ hb)
            refine ⟨fun hm => ?_, by rw [k3.1]; exact g2, g3⟩
            rcases k4 b hm with hm | hm
            · exact n3 b hm b hb rfl
            · exact g1 hm)
          refine ⟨ρ2, j1, ⟨?_, j2⟩, ⟨j3.1.trans k3.1, j3.2.1.trans k3.2.1, fun x hx => ?_⟩, j4.trans k6, j5.trans k7, j6.trans k8⟩
          · rw [e1]
            refine mkV_rep (k2.monoM fun y v hy hyv => ?_) e2
            rcases k9 y hy with ⟨z, rfl⟩ | ⟨x, hx, rfl⟩
            · show RdX ρ2.H z v
              rw [j3.1]; exact hyv
            · exact ⟨by rw [(j3.2.2 x hx).1]; exact hyv.1, hyv.2⟩
          · obtain ⟨a1, a2, a3⟩ := j3.2.2 x (k5 x hx)
            obtain ⟨b1, b2, b3⟩ := k3.2.2 x hx
            exact ⟨a1.trans b1, a2.trans b2, a3.trans b3⟩
        · cases h
      · cases h
def resV : List (Bool × List AC) → AV
 | [(g, l)] => .p g l
 | ps => .tup ps
theorem resV_rep {ps : List (Bool × List AC)} {us : List Value} (h : L2 (RepP ρ) ps us) : RepV ρ (resV ps) (retV us) := by
 match ps, us, h with
 | [], [], h => exact ⟨[], rfl, trivial⟩
 | [(g, l)], [u], h => exact h.1
 | p :: q :: r, u :: v :: s, h => exact ⟨u :: v :: s, rfl, h⟩
def impO (S : St) (nm : Nat) (res : List (Bool × List RC)) : Option (AV × St) :=
 match impPs S nm res with
 | some (ps, S') => match ps with
  | [(g, l)] => some (.p g l, S')
  | _ => some (.tup ps, S')
 | none => none
theorem impO_eq {nm : Nat} {res : List (Bool × List RC)} {av : AV} {S' : St} (h : impO S nm res = some (av, S')) : ∃ ps, impPs S nm res = some (ps, S') ∧ av = resV ps := by
 unfold impO at h
 split at h
 ·rename_i ps S2 hi
  split at h
  ·cases h; exact ⟨_, hi, rfl⟩
  ·rename_i hne
   cases h
   refine ⟨_, hi, ?_⟩
   unfold resV
   split
   ·rename_i g l; exact absurd rfl (hne g l)
   ·rfl
 ·cases h
def imPs (T : List (Nat × AV)) (B : List (Nat × Nat × List AC)) (R : List (Nat × Nat × Nat × List (List C))) : Nat → List (Bool × List RC) → Option (List (Bool × List AC) × List (Nat × Nat × Nat × List (List C)))
 | _, [] => some ([], R)
 | nm, (g, l) :: ps => match imC T B R nm l with
  | some (l', R', m) => match imPs T B R' m ps with
   | some (ps', R'') => some ((g, l') :: ps', R'')
   | none => none
  | none => none
theorem imPs_eq {T : List (Nat × AV)} {B : List (Nat × Nat × List AC)} {M : List (Nat × (Int → Option Value))} : ∀ {ps : List (Bool × List RC)} {R R' : List (Nat × Nat × Nat × List (List C))} {nm : Nat} {l : List (Bool × List AC)}, imPs T B R nm ps = some (l, R') → impPs ⟨T, B, R, M⟩ nm ps = some (l, ⟨T, B, R', M⟩)
  | [], R, R', nm, l, h => by cases h; rfl
  | (g, p) :: ps, R, R', nm, l, h => by
    unfold imPs at h
    split at h
    · rename_i l' R2 m hi
      split at h
      · rename_i ps' R3 hp
        cases h
        unfold impPs
        rw [imC_eq hi]
        simp only
        rw [imPs_eq hp]
      · cases h
    · cases h
def imO (T : List (Nat × AV)) (B : List (Nat × Nat × List AC)) (R : List (Nat × Nat × Nat × List (List C))) (nm : Nat) (res : List (Bool × List RC)) : Option (AV × List (Nat × Nat × Nat × List (List C))) :=
 match imPs T B R nm res with
 | some (ps, R') => match ps with
  | [(g, l)] => some (.p g l, R')
  | _ => some (.tup ps, R')
 | none => none
theorem imO_eq {T : List (Nat × AV)} {B : List (Nat × Nat × List AC)} {M : List (Nat × (Int → Option Value))} {R R' : List (Nat × Nat × Nat × List (List C))} {nm : Nat} {res : List (Bool × List RC)} {av : AV} (h : imO T B R nm res = some (av, R')) : impO ⟨T, B, R, M⟩ nm res = some (av, ⟨T, B, R', M⟩) := by
 unfold imO at h
 split at h
 ·rename_i ps R2 hi
  unfold impO
  rw [imPs_eq hi]
  split at h
  ·cases h; rfl
  ·rename_i hne
   cases h
   match ps, hne with
   | [], _ => rfl
   | [(g, l)], hne => exact absurd rfl (hne g l)
   | _ :: _ :: _, _ => rfl
 ·cases h
def noCl : List RC → Bool
 | [] => true
 | .c _ :: _ => false
 | .v _ :: r => noCl r
 | .nil :: r => noCl r
 | .s _ _ _ :: r => noCl r
def noCr : List (Bool × List RC) → Bool
  | [] => true
  | (_, l) :: r => match noCl l with
    | true => noCr r
    | false => false
theorem noCl_ok {H H' : Nat → Option Obj} {w : World} : ∀ {rs : List RC} {us : List Value} {F : List Nat}, noCl rs = true → OwRs H w rs us F → OwRs H' w rs us F
 | [], [], F, _, h => h
 | .v x :: rs, u :: us, F, hn, h => let ⟨F1, F2, h1, h2, h3⟩ := h; ⟨F1, F2, h1, noCl_ok (rs := rs) hn h2, h3⟩
 | .nil :: rs, u :: us, F, hn, h => let ⟨F1, F2, h1, h2, h3⟩ := h; ⟨F1, F2, h1, noCl_ok (rs := rs) hn h2, h3⟩
 | .s _ _ _ :: rs, u :: us, F, hn, h => let ⟨F1, F2, h1, h2, h3⟩ := h; ⟨F1, F2, h1, noCl_ok (rs := rs) hn h2, h3⟩
 | .c _ :: _, _, _, hn, _ => by cases hn
 | [], _ :: _, _, _, h => h.elim
 | .v _ :: _, [], _, _, h => h.elim
 | .nil :: _, [], _, _, h => h.elim
 | .s _ _ _ :: _, [], _, _, h => h.elim
theorem noCr_ok {H H' : Nat → Option Obj} {w : World} : ∀ {rs : List (Bool × List RC)} {us : List Value} {F : List Nat}, noCr rs = true → OwPs H w rs us F → OwPs H' w rs us F
  | [], [], F, _, h => h
  | (g, l) :: rs, u :: us, F, hn, h => by
    unfold noCr at hn
    split at hn
    · rename_i hl
      obtain ⟨F1, F2, ⟨vs, e1, e2, e3⟩, h2, h3⟩ := h
      exact ⟨F1, F2, ⟨vs, e1, e2, noCl_ok hl e3⟩, noCr_ok hn h2, h3⟩
    · cases hn
  | [], _ :: _, _, _, h => h.elim
  | _ :: _, [], _, _, h => h.elim
def allC : List AC → Bool
 | [] => true
 | .c _ :: r => allC r
 | _ => false
def allA (T : List (Nat × AV)) : List Operand → Bool
 | [] => true
 | x :: r => match opv T x with
  | some (.p _ l) => match allC l with
   | true => allA T r
   | false => false
  | _ => false
def modeB (T : List (Nat × AV)) (xs : List Operand) (res : List (Bool × List RC)) : Bool :=
 match noCr res with
 | true => true
 | false => allA T xs
theorem RsA.rdC (hs : Sim X ρ S a w) : ∀ {xs : List Operand} {args : List (Bool × List C)}, RsA S xs args → allA S.T xs = true → L2 (Pc ρ.H) args (xs.map a.eval)
 | [], [], _, _ => trivial
 | x :: xs, (g, l') :: args, h, ha => by
  obtain ⟨⟨l, h1, h2⟩, h3⟩ := h
  unfold allA at ha
  split at ha
  ·rename_i g2 l2 hx
   rw [hx] at h1
   cases h1
   split at ha
   ·rename_i hl
    refine ⟨?_, RsA.rdC hs h3 ha⟩
    have h4 := opv_rep hs hx
    have hcell : ∀ {l : List AC} {us : List Value} {l' : List C}, allC l = true → L2 (RepC ρ) l us → L2 (RsC S) l l' → L2 (RdX ρ.H) l' us := by
     intro l
     induction l with
     | nil => intro us l' _ h k; match us, l', h, k with | [], [], _, _ => trivial
     | cons c l ih =>
      intro us l' hc h k
      match us, l', h, k with
      | u :: us, y :: l', h, k =>
       cases c with
       | c z => exact ⟨by rw [show y = z from k.1]; exact h.1, ih hc h.2 k.2⟩
       | _ => cases hc
    have h5 : RepP ρ (g, l) (a.eval x) := h4
    unfold RepP at h5
    unfold Pc
    split
    ·rename_i hg
     rw [if_pos hg] at h5
     obtain ⟨us, hu, h6⟩ := h5
     exact ⟨us, hu, hcell hl h6 h2⟩
    ·rename_i hg
     rw [if_neg hg] at h5
     exact hcell hl h5 h2
   ·cases ha
  ·cases ha
 | [], _ :: _, h, _ => h.elim
 | _ :: _, [], h, _ => h.elim
theorem callH {f : FuncId} {xs : List Operand} {args : List (Bool × List C)} {res : List (Bool × List RC)} (hc : Pure P f args res) (hs : Sim X ρ S a w) (hr : RsA S xs args) (hm : modeB S.T xs res = true) : Calls P f (xs.map a.eval).toArray w (PurePost ρ.H res w) := by
 unfold modeB at hm
 split at hm
 ·rename_i hn
  exact (hc (fun b => w.heap[b]?) w _ (fun _ _ h => h) (RsA.rd hs hr)).mono fun e w' h => let ⟨us, F, h1, h2, h3⟩ := h; ⟨us, F, h1, noCr_ok hn h2, h3⟩
 ·exact hc ρ.H w _ hs.hp.H (RsA.rdC hs hr hm)
theorem call_wp {o : Oper} {f : FuncId} {c : Operand} {xs : List Operand} {tys : Array TypeId} {args : List (Bool × List C)} {res : List (Bool × List RC)} {nm d : Nat} {av : AV} {S' : St} {K : Act → World → Prop} {Q : Exit → Act → World → Prop}
  (hF : chkF P f = true) (ho : o.op = .call ⟨.value c, xs.toArray, tys⟩) (hcv : a.eval c = .func (.func f) #[] #[]) (hd : o.dst = some d) (hc : Pure P f args res) (hr : RsA S xs args) (hm : modeB S.T xs res = true) (hi : impO S nm res = some (av, S')) (hN : okD X d = true) (hs : Sim X ρ S a w)
  (h : ∀ ρ' v w', Below w.heap.size w w' → Sim X ρ' ⟨(d, av) :: S'.T, S'.B, S'.R, S'.M⟩ (a.put (some d) v) w' → K (a.put (some d) v) w') : Oper.wp P o a w K Q := by
 obtain ⟨od, op, oty, opos, oaf, og⟩ := o
 simp only at ho hd
 subst ho; subst hd
 unfold Oper.wp
 rw [run_callc hF a.eval xs.toArray tys (some d) oty opos oaf og hcv]
 have := callH hc hs hr hm
 rw [Oper.upon_enter]
 have e : xs.toArray.map a.eval = (xs.map a.eval).toArray := by simp
 rw [e]
 refine this.mono fun en w' hpost => ?_
 obtain ⟨us, F, rfl, h1, h2, h3, h4⟩ := hpost
 obtain ⟨ps, hp, rfl⟩ := impO_eq hi
 have hs' := hs.next h4
 obtain ⟨ρ', k1, k2, _⟩ := impPs_ok hp hs' h1 h2 (fun b hb => by
  have hge := h3 b hb
  refine ⟨fun hm => by have := hs.hp.lt b hm; omega, ?_, .inr (Nat.le_trans hs.fr.size hge)⟩
  cases ho : ρ.H b with
  | none => rfl
  | some o => have := heap_lt (hs.hp.H b o ho); omega)
 exact h ρ' _ w' h4 (k1.put hN (resV_rep k2))
variable {Q : Exit → Act → World → Prop} {ops : Array Oper} {rest : List Oper}
theorem evl_call {T : List (Nat × AV)} {B : List (Nat × Nat × List AC)} {R : List (Nat × Nat × Nat × List (List C))} {M : List (Nat × (Int → Option Value))} {f : FuncId} {xs : List Operand} {tys : Array TypeId} {args : List (Bool × List C)} {res : List (Bool × List RC)} {nm d ty : Nat} {pos : String} {af : Array Edge} {av : AV} {R' : List (Nat × Nat × Nat × List (List C))}
  (hF : chkF P f = true) (hc : Pure P f args res) (hr : RsA ⟨T, B, R, M⟩ xs args) (hm : modeB T xs res = true) (hi : imO T B R nm res = some (av, R')) (hN : okD X d = true) (h : EvL P X ops rest Q ⟨(d, av) :: T, B, R', M⟩) :
  EvL P X ops (⟨some d, .call ⟨.value (.func f), xs.toArray, tys⟩, ty, pos, af, none⟩ :: rest) Q ⟨T, B, R, M⟩ :=
 fun ρ a w hs => wpList_plain rfl fun K hK => call_wp hF rfl rfl rfl hc hr hm (imO_eq hi) hN hs fun ρ' v w' _ hs' => hK _ _ (h ρ' _ w' hs')
theorem evl_callg {T : List (Nat × AV)} {B : List (Nat × Nat × List AC)} {R : List (Nat × Nat × Nat × List (List C))} {M : List (Nat × (Int → Option Value))} {f : FuncId} {xs : List Operand} {tys : Array TypeId} {args : List (Bool × List C)} {res : List (Bool × List RC)} {nm d ty : Nat} {pos : String} {af : Array Edge} {av : AV} {R' : List (Nat × Nat × Nat × List (List C))} {j : Nat} {want b : Bool} {t : Tmp}
  (hj : gTmp ops j = some t) (hv : lk T t = some (.p false [.c (.v (.bool b))])) (hb : b = want) (hF : chkF P f = true) (hc : Pure P f args res) (hr : RsA ⟨T, B, R, M⟩ xs args) (hm : modeB T xs res = true) (hi : imO T B R nm res = some (av, R')) (hN : okD X d = true) (h : EvL P X ops rest Q ⟨(d, av) :: T, B, R', M⟩) :
  EvL P X ops (⟨some d, .call ⟨.value (.func f), xs.toArray, tys⟩, ty, pos, af, some (j, want)⟩ :: rest) Q ⟨T, B, R, M⟩ := by
 intro ρ a w hs
 refine wpList_step fun K hK => ?_
 rw [wanted_of hs rfl hj hv, hb, beq_self_eq_true, if_pos rfl]
 exact call_wp hF rfl rfl rfl hc hr hm (imO_eq hi) hN hs fun ρ' v w' _ hs' => hK _ _ (h ρ' _ w' hs')
end
end Go.Proofs.YtahkjonokeifmaaGreat
