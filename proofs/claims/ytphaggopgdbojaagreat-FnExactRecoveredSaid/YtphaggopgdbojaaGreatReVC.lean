/- Function values handed over: a closure over boxes, called by the function that gets it. No program in it. -/
import Derived.Test.YtphaggopgdbojaaGreatReVZ
namespace Go.Proofs.YtphaggopgdbojaaGreat
open Go.ChangeShapes Go.WideShapes Go.ChangeAt Go.RowKit
set_option linter.unusedVariables false
/-- a closure's contract: its arguments, then the addresses of what it takes with it -/
def CFn (P : Program) (f : FuncId) (args : List (Bool × List C)) (css : List (List C)) (res : List (Bool × List RC)) : Prop :=
  ∀ (H : Nat → Option Obj) (w : World) (vs us : List Value), (∀ b o, H b = some o → w.heap[b]? = some o) → L2 (Pc H) args vs → L2 (PeR H) css us → Calls P f (vs ++ us).toArray w (PurePost H res w)
/-- a function value that hands back res x for args x -/
def FnV {α : Type} (P : Program) (H : Nat → Option Obj) (v : Value) (args : α → List (Bool × List C)) (res : α → List (Bool × List RC)) : Prop :=
  ∃ (f : FuncId) (us : List Value), v = .func (.func f) #[] us.toArray ∧ chkF P f = true ∧ ∀ (x : α) (H' : Nat → Option Obj) (w : World) (vs : List Value), (∀ b o, H b = some o → H' b = some o) → (∀ b o, H' b = some o → w.heap[b]? = some o) → L2 (Pc H') (args x) vs → Calls P f (vs ++ us).toArray w (PurePost H' (res x) w)
/-- the contract of a function whose last argument is such a value -/
def PureF {α : Type} (P : Program) (f : FuncId) (args : List (Bool × List C)) (fargs : α → List (Bool × List C)) (fres : α → List (Bool × List RC)) (res : List (Bool × List RC)) : Prop :=
  ∀ (H : Nat → Option Obj) (w : World) (vs : List Value) (v : Value), (∀ b o, H b = some o → w.heap[b]? = some o) → L2 (Pc H) args vs → FnV P H v fargs fres → Calls P f (vs ++ [v]).toArray w (PurePost H res w)
def normT : List (Nat × AV) → Option (List (Nat × AV))
  | [] => some []
  | x :: l => match normT l with
    | some r => some (x :: r)
    | none => none
theorem normT_eq : ∀ {l r : List (Nat × AV)}, normT l = some r → r = l
  | [], r, h => by cases h; rfl
  | x :: l, r, h => by
    unfold normT at h
    split at h
    · rename_i r' hr; cases h; rw [normT_eq hr]
    · cases h
def catT : List (Nat × AV) → List (Nat × AV) → Option (List (Nat × AV))
  | [], m => normT m
  | x :: l, m => match catT l m with
    | some r => some (x :: r)
    | none => none
theorem catT_eq : ∀ {l m r : List (Nat × AV)}, catT l m = some r → r = l ++ m
  | [], m, r, h => normT_eq h
  | x :: l, m, r, h => by
    unfold catT at h
    split at h
    · rename_i r' hr; cases h; rw [catT_eq hr]; rfl
    · cases h
theorem lk_append {m : List (Nat × AV)} {t : Nat} {v : AV} : ∀ {l : List (Nat × AV)}, lk (l ++ m) t = some v → lk l t = some v ∨ lk m t = some v
  | [], h => .inr h
  | (k, x) :: l, h => by
    have h' : (if k = t then some x else lk (l ++ m) t) = some v := h
    show (if k = t then some x else lk l t) = some v ∨ lk m t = some v
    by_cases e : k = t
    · rw [if_pos e] at h' ⊢; exact .inl h'
    · rw [if_neg e] at h' ⊢; exact lk_append h'
section
variable {P : Program} {X : Cx} {S : St} {ρ : Rho} {a : Act} {w : World}
theorem cfn_intro {f : FuncId} {fn : Func} {c : Code} {args : List (Bool × List C)} {css : List (List C)} {res : List (Bool × List RC)} {T T' : List (Nat × AV)} {N : Nat} (hf : P.funcs[f]? = some fn) (hb : fn.body = some c) (hN : fn.ntmps = N) (hl : Nat.ble (args.length + css.length) N = true) (hT : argT 0 args = some T) (hT' : catT T (itT args.length css) = some T')
    (h : ∀ H w, Ev P ⟨N, w, [], H, [], []⟩ c (bodyPost P fn (PurePost H res w)) ⟨T', [], [], []⟩) : CFn P f args css res := by
  intro H w vs us hH hv hu
  refine calls_of_wp hf hb ?_
  have hvl := hv.len
  have hul := hu.len
  have hle := Nat.le_of_ble_eq_true hl
  refine h H w ⟨H, fun _ => 0, fun _ => undef, fun _ => [], fun _ => []⟩ _ w ⟨⟨hH, by simp, by simp, by simp, by simp [feet], by simp [feet]⟩, fun t av ht => ?_, ⟨rfl, rfl⟩, ⟨by simp [hN]; omega, by simp⟩, Chg.refl _ _, by simp [feet]⟩
  simp only at ht
  rw [catT_eq hT'] at ht
  rcases lk_append ht with ht | ht
  · obtain ⟨_, v, h1, h2⟩ := argT_rep (ρ := ⟨H, fun _ => 0, fun _ => undef, fun _ => [], fun _ => []⟩) hT hv t av ht
    refine ⟨v, ?_, h2⟩
    have hlt : t < vs.length := (List.getElem?_eq_some_iff.1 h1).1
    simp only [Nat.sub_zero] at h1
    show ((vs ++ us).toArray ++ _)[t]? = some v
    rw [Array.getElem?_append_left (by simp; omega)]
    simp only [List.getElem?_toArray]
    rw [List.getElem?_append_left hlt]
    exact h1
  · obtain ⟨h0, v, h1, h2⟩ := itT_rep (ρ := ⟨H, fun _ => 0, fun _ => undef, fun _ => [], fun _ => []⟩) hu t av ht
    refine ⟨v, ?_, h2⟩
    have hlt : t - args.length < us.length := (List.getElem?_eq_some_iff.1 h1).1
    show ((vs ++ us).toArray ++ _)[t]? = some v
    rw [Array.getElem?_append_left (by simp; omega)]
    simp only [List.getElem?_toArray]
    rw [List.getElem?_append_right (by omega), hvl]
    exact h1
theorem puref_intro {α : Type} {f : FuncId} {fn : Func} {c : Code} {args : List (Bool × List C)} {fargs : α → List (Bool × List C)} {fres : α → List (Bool × List RC)} {res : List (Bool × List RC)} {T : List (Nat × AV)} {T' : Value → List (Nat × AV)} {N : Nat} (hf : P.funcs[f]? = some fn) (hb : fn.body = some c) (hN : fn.ntmps = N) (hl : Nat.ble (args.length + 1) N = true) (hT : argT 0 args = some T) (hT' : ∀ v, catT T [(args.length, .p false [.c (.v v)])] = some (T' v))
    (h : ∀ H w v, FnV P H v fargs fres → Ev P ⟨N, w, [], H, [], []⟩ c (bodyPost P fn (PurePost H res w)) ⟨T' v, [], [], []⟩) : PureF P f args fargs fres res := by
  intro H w vs v0 hH hv hfn
  refine calls_of_wp hf hb ?_
  have hvl := hv.len
  have hle := Nat.le_of_ble_eq_true hl
  have hone : v0.oneCell' = true := by obtain ⟨f, us, rfl, _⟩ := hfn; rfl
  refine h H w v0 hfn ⟨H, fun _ => 0, fun _ => undef, fun _ => [], fun _ => []⟩ _ w ⟨⟨hH, by simp, by simp, by simp, by simp [feet], by simp [feet]⟩, fun t av ht => ?_, ⟨rfl, rfl⟩, ⟨by simp [hN]; omega, by simp⟩, Chg.refl _ _, by simp [feet]⟩
  simp only at ht
  rw [catT_eq (hT' v0)] at ht
  rcases lk_append ht with ht | ht
  · obtain ⟨_, v, h1, h2⟩ := argT_rep (ρ := ⟨H, fun _ => 0, fun _ => undef, fun _ => [], fun _ => []⟩) hT hv t av ht
    refine ⟨v, ?_, h2⟩
    have hlt : t < vs.length := (List.getElem?_eq_some_iff.1 h1).1
    simp only [Nat.sub_zero] at h1
    show ((vs ++ [v0]).toArray ++ _)[t]? = some v
    rw [Array.getElem?_append_left (by simp; omega)]
    simp only [List.getElem?_toArray]
    rw [List.getElem?_append_left hlt]
    exact h1
  · have ht' : (if args.length = t then some (AV.p false [AC.c (C.v v0)]) else none) = some av := ht
    by_cases e : args.length = t
    · rw [if_pos e] at ht'
      cases ht'
      refine ⟨v0, ?_, ⟨⟨0, rfl, hone⟩, trivial⟩⟩
      show ((vs ++ [v0]).toArray ++ _)[t]? = some v0
      rw [Array.getElem?_append_left (by simp; omega)]
      simp only [List.getElem?_toArray]
      rw [List.getElem?_append_right (by omega), hvl, ← e]
      simp
    · rw [if_neg e] at ht'; cases ht'
theorem run_callf {f : FuncId} {c : Operand} (h : chkF P f = true) (ρ : Operand → Value) (xs : Array Operand) (tys : Array TypeId) (d : Option Tmp) (ty : TypeId) (pos : String) (af : Array Edge) (g : Option (Nat × Bool)) (us : Array Value) (hf : ρ c = .func (.func f) #[] us) :
    (execOp ρ ⟨d, .call ⟨.value c, xs, tys⟩, ty, pos, af, g⟩).run P w = .ok (.enter f (xs.map ρ ++ us)) w := by
  unfold chkF at h
  split at h
  · rename_i fn hfn
    simp only [Bool.and_eq_true, Bool.not_eq_true', beq_eq_false_iff_ne, ne_eq] at h
    obtain ⟨h1, h2⟩ := h
    obtain ⟨c, hc⟩ := Option.isSome_iff_exists.1 h2
    simp [execOp, resolve, Deferred.ofValue, hf, invoke, callFunc, hfn, h1, hc]
  · cases h
/-- what a call made is known under new names -/
theorem after_call {res : List (Bool × List RC)} {nm d : Nat} {av : AV} {S' : St} {e : Ending} {w' : World} (hs : Sim X ρ S a w) (hN : okD X d = true) (hi : impO S nm res = some (av, S')) (hp : PurePost ρ.H res w e w') :
    ∃ v ρ', e = .returned v ∧ Below w.heap.size w w' ∧ Sim X ρ' ⟨(d, av) :: S'.T, S'.B, S'.R, S'.M⟩ (a.put (some d) v) w' := by
  obtain ⟨us, F, rfl, h1, h2, h3, h4⟩ := hp
  obtain ⟨ps, hp, rfl⟩ := impO_eq hi
  have hs' := hs.next h4
  obtain ⟨ρ', k1, k2, _⟩ := impPs_ok hp hs' h1 h2 (fun b hb => by
    have hge := h3 b hb
    refine ⟨fun hm => by have := hs.hp.lt b hm; omega, ?_, .inr (Nat.le_trans hs.fr.size hge)⟩
    cases ho : ρ.H b with
    | none => rfl
    | some o => have := heap_lt (hs.hp.H b o ho); omega)
  exact ⟨_, ρ', rfl, h4, k1.put hN (resV_rep k2)⟩
variable {Q : Exit → Act → World → Prop} {ops : Array Oper} {rest : List Oper}
/-- a call of a function value that was handed over -/
theorem evl_callf {α : Type} {T : List (Nat × AV)} {B : List (Nat × Nat × List AC)} {R R' : RL} {M : List (Nat × (Int → Option Value))} {v : Value} {c : Operand} {xs : List Operand} {tys : Array TypeId} {fargs : α → List (Bool × List C)} {fres : α → List (Bool × List RC)} {nm d ty : Nat} {av : AV} {pos : String} {af : Array Edge} (x : α)
    (hv : opv T c = some (.p false [.c (.v v)])) (hfn : FnV P X.H v fargs fres) (hr : RsA ⟨T, B, R, M⟩ xs (fargs x)) (hm : noCr (fres x) = true) (hi : imO T B R nm (fres x) = some (av, R')) (hN : okD X d = true) (h : EvL P X ops rest Q ⟨(d, av) :: T, B, R', M⟩) :
    EvL P X ops (⟨some d, .call ⟨.value c, xs.toArray, tys⟩, ty, pos, af, none⟩ :: rest) Q ⟨T, B, R, M⟩ := by
  intro ρ a w hs
  refine wpList_plain rfl fun K hK => ?_
  obtain ⟨f, us, rfl, hF, hcall⟩ := hfn
  unfold Oper.wp
  rw [run_callf hF a.eval xs.toArray tys (some d) ty pos af none us.toArray (rd_v (opv_rep hs hv).1), Oper.upon_enter]
  have e : xs.toArray.map a.eval ++ us.toArray = (xs.map a.eval ++ us).toArray := by simp
  rw [e]
  refine (hcall x (fun b => w.heap[b]?) w _ (fun b o hb => hs.hp.H b o (by rw [hs.df.2]; exact hb)) (fun _ _ h => h) (RsA.rd hs hr)).mono fun en w' hp => ?_
  obtain ⟨us', F, h1, h2, h3⟩ := hp
  obtain ⟨v, ρ', rfl, _, k⟩ := after_call hs hN (imO_eq hi) ⟨us', F, h1, noCr_ok hm h2, h3⟩
  exact hK _ _ (h ρ' _ w' k)
/-- the contents of boxes that a function value takes with it -/
def capsO (B : List (Nat × Nat × List AC)) (R : RL) : List (Nat × Nat) → Option (List (List C))
  | [] => some []
  | (b, 0) :: r => match lk B b with
    | some (_, l) => match rsL R l with
      | some cs => match capsO B R r with
        | some css => some (cs :: css)
        | none => none
      | none => none
    | none => none
  | _ => none
theorem box_rd (hs : Sim X ρ S a w) {b ty : Nat} {l : List AC} {cs : List C} (hb : lk S.B b = some (ty, l)) (hl : L2 (RsC S) l cs) : PeR (fun b => w.heap[b]?) cs (.pointer (some ⟨ρ.box b, 0, none⟩)) := by
  obtain ⟨vs, h1, h2⟩ := hs.hp.B _ (lk_mem hb)
  simp only at h1 h2
  refine ⟨ρ.box b, 0, rfl, fun j c hj => ?_⟩
  have hcell : ∀ {l : List AC} {us : List Value} {l' : List C}, L2 (RepC ρ) l us → L2 (RsC S) l l' → L2 (RdX fun b => w.heap[b]?) l' us := by
    intro l
    induction l with
    | nil => intro us l' h k; match us, l', h, k with | [], [], _, _ => trivial
    | cons c l ih => intro us l' h k; match us, l', h, k with | u :: us, y :: l', h, k => exact ⟨RsC.rd hs.hp h.1 k.1, ih h.2 k.2⟩
  obtain ⟨x, k1, k2⟩ := (hcell h2 hl).get hj
  refine ⟨x, ?_, k2⟩
  unfold rcell
  simp only [h1, Nat.zero_add]
  simpa using k1
theorem caps_rd (hs : Sim X ρ S a w) : ∀ {caps : List (Nat × Nat)} {css : List (List C)}, capsO S.B S.R caps = some css → L2 (PeR fun b => w.heap[b]?) css (caps.map fun p => Value.pointer (some ⟨ρ.box p.1, p.2, none⟩))
  | [], css, h => by cases h; trivial
  | (b, 0) :: r, css, h => by
    have h' : (match lk S.B b with
      | some (_, l) => match rsL S.R l with
        | some cs => match capsO S.B S.R r with
          | some css => some (cs :: css)
          | none => none
        | none => none
      | none => none) = some css := h
    split at h'
    · rename_i ty l hb
      split at h'
      · rename_i cs hl
        split at h'
        · rename_i css' hr
          cases h'
          exact ⟨box_rd hs hb (rsL_ok hl), caps_rd hs hr⟩
        · cases h'
      · cases h'
    · cases h'
  | (b, k + 1) :: r, css, h => by
    have h' : (none : Option (List (List C))) = some css := h
    cases h'
/-- a call of a function that gets a closure over boxes -/
theorem callF_wp {α : Type} {T : List (Nat × AV)} {B : List (Nat × Nat × List AC)} {R R' : RL} {M : List (Nat × (Int → Option Value))} {o : Oper} {f f2 : FuncId} {x1 x2 y : Operand} {tys : Array TypeId} {args : List (Bool × List C)} {fargs : α → List (Bool × List C)} {fres : α → List (Bool × List RC)} {res : List (Bool × List RC)} {caps : List (Nat × Nat)} {css : List (List C)} {nm d : Nat} {av : AV} {K : Act → World → Prop}
    (hF : chkF P f = true) (ho : o.op = .call ⟨.value (.func f), [x1, x2, y].toArray, tys⟩) (hd : o.dst = some d) (hc : PureF P f args fargs fres res) (hr : RsA ⟨T, B, R, M⟩ [x1, x2] args) (hy : opv T y = some (.p false [.fn (.func f2) caps])) (hF2 : chkF P f2 = true) (hcs : capsO B R caps = some css) (h2 : ∀ x, CFn P f2 (fargs x) css (fres x)) (hm : noCr res = true) (hi : imO T B R nm res = some (av, R')) (hN : okD X d = true) (hs : Sim X ρ ⟨T, B, R, M⟩ a w)
    (h : ∀ ρ' v w', Below w.heap.size w w' → Sim X ρ' ⟨(d, av) :: T, B, R', M⟩ (a.put (some d) v) w' → K (a.put (some d) v) w') : Oper.wp P o a w K Q := by
  obtain ⟨od, oop, oty, opos, oaf, og⟩ := o
  simp only at ho hd
  subst ho; subst hd
  unfold Oper.wp
  rw [run_call hF a.eval [x1, x2, y].toArray tys (some d) oty opos oaf og rfl, Oper.upon_enter]
  have hyv : a.eval y = .func (.func f2) #[] (caps.map fun p => Value.pointer (some ⟨ρ.box p.1, p.2, none⟩)).toArray := (opv_rep hs hy).1
  have hcall := hc (fun b => w.heap[b]?) w [a.eval x1, a.eval x2] (a.eval y) (fun _ _ h => h) (RsA.rd hs hr) ⟨f2, _, hyv, hF2, fun x H' W vs hH hW hv => h2 x H' W vs _ hW hv (L2.mono (fun cs u hu => by
    obtain ⟨g, o, e, hc⟩ := hu
    exact ⟨g, o, e, fun j c hj => let ⟨y, k1, k2⟩ := hc j c hj; ⟨y, rcell_mono hH k1, RdX.mono hH k2⟩⟩) (caps_rd hs hcs))⟩
  have e : [x1, x2, y].toArray.map a.eval = ([a.eval x1, a.eval x2] ++ [a.eval y]).toArray := by simp
  rw [e]
  refine hcall.mono fun en w' hp => ?_
  obtain ⟨us', F, h1, h2, h3⟩ := hp
  obtain ⟨v, ρ', rfl, hb, k⟩ := after_call hs hN (imO_eq hi) ⟨us', F, h1, noCr_ok hm h2, h3⟩
  exact h ρ' v w' hb k
theorem rdo_callF {α : Type} {T : List (Nat × AV)} {B : List (Nat × Nat × List AC)} {R R' : RL} {M : List (Nat × (Int → Option Value))} {Q : Act → World → Prop} {ks : List Nat} {fuel i : Nat} {listed : Array Bool} {g : Option (Nat × Bool)} {f f2 : FuncId} {x1 x2 y : Operand} {tys : Array TypeId} {args : List (Bool × List C)} {fargs : α → List (Bool × List C)} {fres : α → List (Bool × List RC)} {res : List (Bool × List RC)} {caps : List (Nat × Nat)} {css : List (List C)} {nm d ty : Nat} {av : AV} {pos : String} {af : Array Edge}
    (hi0 : ops[i]? = some ⟨some d, .call ⟨.value (.func f), [x1, x2, y].toArray, tys⟩, ty, pos, af, g⟩) (hg : GOk ops T g) (hF : chkF P f = true) (hc : PureF P f args fargs fres res) (hr : RsA ⟨T, B, R, M⟩ [x1, x2] args) (hy : opv T y = some (.p false [.fn (.func f2) caps])) (hF2 : chkF P f2 = true) (hcs : capsO B R caps = some css) (h2 : ∀ x, CFn P f2 (fargs x) css (fres x)) (hm : noCr res = true) (hi : imO T B R nm res = some (av, R')) (hN : okD X d = true)
    (h : RDk P X ops ks fuel (listed.setIfInBounds i true) ⟨(d, av) :: T, B, R', M⟩ Q) : RDo P X ops ks fuel listed i ⟨T, B, R, M⟩ Q := by
  intro ρ a w hs
  refine wpOp_step hi0 fun K' hK => ?_
  rw [if_pos (GOk.wanted (o := ⟨some d, .call ⟨.value (.func f), [x1, x2, y].toArray, tys⟩, ty, pos, af, g⟩) hs hg)]
  refine callF_wp hF rfl rfl hc hr hy hF2 hcs h2 hm hi hN hs fun ρ' v w' hb hs' => hK _ _ ⟨fun _ => hb, ?_⟩
  exact wpAnyK_mono (fun W hW => hb.trans (hW.mono hb.size)) _ _ _ _ (h ρ' _ w' hs')
theorem q_mkf3 {f : FuncId} {x y z : Operand} {b1 b2 b3 o1 o2 o3 : Nat} (h1 : opv S.T x = some (.p false [.pb b1 o1])) (h2 : opv S.T y = some (.p false [.pb b2 o2])) (h3 : opv S.T z = some (.p false [.pb b3 o3])) : Quiet P X S (.makeFunc (.func f) #[] #[x, y, z]) (.p false [.fn (.func f) [(b1, o1), (b2, o2), (b3, o3)]]) := fun ρ a w hs => by
  have e1 : a.eval x = .pointer (some ⟨ρ.box b1, o1, none⟩) := (opv_rep hs h1).1
  have e2 : a.eval y = .pointer (some ⟨ρ.box b2, o2, none⟩) := (opv_rep hs h2).1
  have e3 : a.eval z = .pointer (some ⟨ρ.box b3, o3, none⟩) := (opv_rep hs h3).1
  exact ⟨_, ⟨rfl, trivial⟩, fun _ _ _ _ _ _ _ => by simp [execOp, Instr.makeFunc, e1, e2, e3]⟩
end
end Go.Proofs.YtphaggopgdbojaaGreat
