/- Drawn regions in which draws come up. No program in it. -/
import Derived.Test.YtahkjonokeifmaaGreatRaVZ
import Derived.Test.YtahkjonokeifmaaGreatRaVY
import Derived.Test.YtahkjonokeifmaaGreatRaVF
import Derived.Test.YtahkjonokeifmaaGreatRaVN
namespace Go.Proofs.YtahkjonokeifmaaGreat
open Go.ChangeShapes Go.WideShapes Go.ChangeAt Go.RowKit
set_option linter.unusedVariables false
def CFn (P : Program) (f : FuncId) (args : List (Bool × List C)) (css : List (List C)) (res : List (Bool × List RC)) : Prop :=
 ∀ (H : Nat → Option Obj) (w : World) (vs us : List Value), (∀ b o, H b = some o → w.heap[b]? = some o) → L2 (Pc H) args vs → L2 (PeR H) css us → Calls P f (vs ++ us).toArray w (PurePost H res w)
def FnV {α : Type} (P : Program) (H : Nat → Option Obj) (v : Value) (args : α → List (Bool × List C)) (res : α → List (Bool × List RC)) : Prop :=
 ∃ (f : FuncId) (us : List Value), v = .func (.func f) #[] us.toArray ∧ chkF P f = true ∧ ∀ (x : α) (H' : Nat → Option Obj) (w : World) (vs : List Value), (∀ b o, H b = some o → H' b = some o) → (∀ b o, H' b = some o → w.heap[b]? = some o) → L2 (Pc H') (args x) vs → Calls P f (vs ++ us).toArray w (PurePost H' (res x) w)
def PureF {α : Type} (P : Program) (f : FuncId) (args : List (Bool × List C)) (fargs : α → List (Bool × List C)) (fres : α → List (Bool × List RC)) (res : List (Bool × List RC)) : Prop :=
 ∀ (H : Nat → Option Obj) (w : World) (vs : List Value) (v : Value), (∀ b o, H b = some o → w.heap[b]? = some o) → L2 (Pc H) args vs → FnV P H v fargs fres → Calls P f (vs ++ [v]).toArray w (PurePost H res w)
def normT : List (Nat × AV) → Option (List (Nat × AV))
 | [] => some []
 | x :: l => match normT l with
  | some r => some (x :: r)
  | none => none
theorem normT_eq : ∀ {l r : List (Nat × AV)}, normT l = some r → r = l
 | [], r, h => by cases h; rfl
 | x :: l, r, h => by
  unfold normT at h
  split at h
  ·rename_i r' hr; cases h; rw [normT_eq hr]
  ·cases h
def catT : List (Nat × AV) → List (Nat × AV) → Option (List (Nat × AV))
 | [], m => normT m
 | x :: l, m => match catT l m with
  | some r => some (x :: r)
  | none => none
theorem catT_eq : ∀ {l m r : List (Nat × AV)}, catT l m = some r → r = l ++ m
 | [], m, r, h => normT_eq h
 | x :: l, m, r, h => by
  unfold catT at h
  split at h
  ·rename_i r' hr; cases h; rw [catT_eq hr]; rfl
  ·cases h
theorem lk_append {m : List (Nat × AV)} {t : Nat} {v : AV} : ∀ {l : List (Nat × AV)}, lk (l ++ m) t = some v → lk l t = some v ∨ lk m t = some v
  | [], h => .inr h
  | (k, x) :: l, h => by
    have h' : (if k = t then some x else lk (l ++ m) t) = some v := h
    show (if k = t then some x else lk l t) = some v ∨ lk m t = some v
    by_cases e : k = t
    · rw [if_pos e] at h' ⊢; exact .inl h'
    · rw [if_neg e] at h' ⊢; exact lk_append h'
section
variable {P : Program} {X : Cx} {S : St} {ρ : Rho} {a : Act} {w : World}
theorem cfn_intro {f : FuncId} {fn : Func} {c : Code} {args : List (Bool × List C)} {css : List (List C)} {res : List (Bool × List RC)} {T T' : List (Nat × AV)} {N : Nat} (hf : P.funcs[f]? = some fn) (hb : fn.body = some c) (hN : fn.ntmps = N) (hl : Nat.ble (args.length + css.length) N = true) (hT : argT 0 args = some T) (hT' : catT T (itT args.length css) = some T')
  (h : ∀ H w, Ev P ⟨N, w, [], H, [], []⟩ c (bodyPost P fn (PurePost H res w)) ⟨T', [], [], []⟩) : CFn P f args css res := by
 intro H w vs us hH hv hu
 refine calls_of_wp hf hb ?_
 have hvl := hv.len
 have hul := hu.len
 have hle := Nat.le_of_ble_eq_true hl
 refine h H w ⟨H, fun _ => 0, fun _ => undef, fun _ => [], fun _ => []⟩ _ w ⟨⟨hH, by simp, by simp, by simp, by simp [feet], by simp [feet]⟩, fun t av ht => ?_, ⟨rfl, rfl⟩, ⟨by simp [hN]; omega, by simp⟩, Chg.refl _ _, by simp [feet]⟩
 simp only at ht
 rw [catT_eq hT'] at ht
 rcases lk_append ht with ht | ht
 ·obtain ⟨_, v, h1, h2⟩ := argT_rep (ρ := ⟨H, fun _ => 0, fun _ => undef, fun _ => [], fun _ => []⟩) hT hv t av ht
  refine ⟨v, ?_, h2⟩
  have hlt : t < vs.length := (List.getElem?_eq_some_iff.1 h1).1
  simp only [Nat.sub_zero] at h1
  show ((vs ++ us).toArray ++ _)[t]? = some v
  rw [Array.getElem?_append_left (by simp; omega)]
  simp only [List.getElem?_toArray]
  rw [List.getElem?_append_left hlt]
  exact h1
 ·obtain ⟨h0, v, h1, h2⟩ := itT_rep (ρ := ⟨H, fun _ => 0, fun _ => undef, fun _ => [], fun _ => []⟩) hu t av ht
  refine ⟨v, ?_, h2⟩
  have hlt : t - args.length < us.length := (List.getElem?_eq_some_iff.1 h1).1
  show ((vs ++ us).toArray ++ _)[t]? = some v
  rw [Array.getElem?_append_left (by simp; omega)]
  simp only [List.getElem?_toArray]
  rw [List.getElem?_append_right om, hvl]
  exact h1
theorem puref_intro {α : Type} {f : FuncId} {fn : Func} {c : Code} {args : List (Bool × List C)} {fargs : α → List (Bool × List C)} {fres : α → List (Bool × List RC)} {res : List (Bool × List RC)} {T : List (Nat × AV)} {T' : Value → List (Nat × AV)} {N : Nat} (hf : P.funcs[f]? = some fn) (hb : fn.body = some c) (hN : fn.ntmps = N) (hl : Nat.ble (args.length + 1) N = true) (hT : argT 0 args = some T) (hT' : ∀ v, catT T [(args.length, .p false [.c (.v v)])] = some (T' v))
  (h : ∀ H w v, FnV P H v fargs fres → Ev P ⟨N, w, [], H, [], []⟩ c (bodyPost P fn (PurePost H res w)) ⟨T' v, [], [], []⟩) : PureF P f args fargs fres res := by
 intro H w vs v0 hH hv hfn
 refine calls_of_wp hf hb ?_
 have hvl := hv.len
 have hle := Nat.le_of_ble_eq_true hl
 have hone : v0.oneCell' = true := by obtain ⟨f, us, rfl, _⟩ := hfn; rfl
 refine h H w v0 hfn ⟨H, fun _ => 0, fun _ => undef, fun _ => [], fun _ => []⟩ _ w ⟨⟨hH, by simp, by simp, by simp, by simp [feet], by simp [feet]⟩, fun t av ht => ?_, ⟨rfl, rfl⟩, ⟨by simp [hN]; omega, by simp⟩, Chg.refl _ _, by simp [feet]⟩
 simp only at ht
 rw [catT_eq (hT' v0)] at ht
 rcases lk_append ht with ht | ht
 ·obtain ⟨_, v, h1, h2⟩ := argT_rep (ρ := ⟨H, fun _ => 0, fun _ => undef, fun _ => [], fun _ => []⟩) hT hv t av ht
  refine ⟨v, ?_, h2⟩
  have hlt : t < vs.length := (List.getElem?_eq_some_iff.1 h1).1
  simp only [Nat.sub_zero] at h1
  show ((vs ++ [v0]).toArray ++ _)[t]? = some v
  rw [Array.getElem?_append_left (by simp; omega)]
  simp only [List.getElem?_toArray]
  rw [List.getElem?_append_left hlt]
  exact h1
 ·have ht' : (if args.length = t then some (AV.p false [AC.c (C.v v0)]) else none) = some av := ht
  by_cases e : args.length = t
  ·rw [if_pos e] at ht'
   cases ht'
   refine ⟨v0, ?_, ⟨⟨0, rfl, hone⟩, trivial⟩⟩
   show ((vs ++ [v0]).toArray ++ _)[t]? = some v0
   rw [Array.getElem?_append_left (by simp; omega)]
   simp only [List.getElem?_toArray]
   rw [List.getElem?_append_right om, hvl, ← e]
   simp
  ·rw [if_neg e] at ht'; cases ht'
theorem run_callf {f : FuncId} {c : Operand} (h : chkF P f = true) (ρ : Operand → Value) (xs : Array Operand) (tys : Array TypeId) (d : Option Tmp) (ty : TypeId) (pos : String) (af : Array Edge) (g : Option (Nat × Bool)) (us : Array Value) (hf : ρ c = .func (.func f) #[] us) :
  (execOp ρ ⟨d, .call ⟨.value c, xs, tys⟩, ty, pos, af, g⟩).run P w = .ok (.enter f (xs.map ρ ++ us)) w := by
 unfold chkF at h
 split at h
 ·rename_i fn hfn
  simp only [Bool.and_eq_true, Bool.not_eq_true', beq_eq_false_iff_ne, ne_eq] at h
  obtain ⟨h1, h2⟩ := h
  obtain ⟨c, hc⟩ := Option.isSome_iff_exists.1 h2
  simp [execOp, resolve, Deferred.ofValue, hf, invoke, callFunc, hfn, h1, hc]
 ·cases h
theorem after_call {res : List (Bool × List RC)} {nm d : Nat} {av : AV} {S' : St} {e : Ending} {w' : World} (hs : Sim X ρ S a w) (hN : okD X d = true) (hi : impO S nm res = some (av, S')) (hp : PurePost ρ.H res w e w') :
  ∃ v ρ', e = .returned v ∧ Below w.heap.size w w' ∧ Sim X ρ' ⟨(d, av) :: S'.T, S'.B, S'.R, S'.M⟩ (a.put (some d) v) w' := by
 obtain ⟨us, F, rfl, h1, h2, h3, h4⟩ := hp
 obtain ⟨ps, hp, rfl⟩ := impO_eq hi
 have hs' := hs.next h4
 obtain ⟨ρ', k1, k2, _⟩ := impPs_ok hp hs' h1 h2 (fun b hb => by
  have hge := h3 b hb
  refine ⟨fun hm => by have := hs.hp.lt b hm; omega, ?_, .inr (Nat.le_trans hs.fr.size hge)⟩
  cases ho : ρ.H b with
  | none => rfl
  | some o => have := heap_lt (hs.hp.H b o ho); omega)
 exact ⟨_, ρ', rfl, h4, k1.put hN (resV_rep k2)⟩
variable {Q : Exit → Act → World → Prop} {ops : Array Oper} {rest : List Oper}
theorem evl_callf {α : Type} {T : List (Nat × AV)} {B : List (Nat × Nat × List AC)} {R R' : RL} {M : List (Nat × (Int → Option Value))} {v : Value} {c : Operand} {xs : List Operand} {tys : Array TypeId} {fargs : α → List (Bool × List C)} {fres : α → List (Bool × List RC)} {nm d ty : Nat} {av : AV} {pos : String} {af : Array Edge} (x : α)
  (hv : opv T c = some (.p false [.c (.v v)])) (hfn : FnV P X.H v fargs fres) (hr : RsA ⟨T, B, R, M⟩ xs (fargs x)) (hm : noCr (fres x) = true) (hi : imO T B R nm (fres x) = some (av, R')) (hN : okD X d = true) (h : EvL P X ops rest Q ⟨(d, av) :: T, B, R', M⟩) :
  EvL P X ops (⟨some d, .call ⟨.value c, xs.toArray, tys⟩, ty, pos, af, none⟩ :: rest) Q ⟨T, B, R, M⟩ := by
 intro ρ a w hs
 refine wpList_plain rfl fun K hK => ?_
 obtain ⟨f, us, rfl, hF, hcall⟩ := hfn
 unfold Oper.wp
 rw [run_callf hF a.eval xs.toArray tys (some d) ty pos af none us.toArray (rd_v (opv_rep hs hv).1), Oper.upon_enter]
 have e : xs.toArray.map a.eval ++ us.toArray = (xs.map a.eval ++ us).toArray := by simp
 rw [e]
 refine (hcall x (fun b => w.heap[b]?) w _ (fun b o hb => hs.hp.H b o (by rw [hs.df.2]; exact hb)) (fun _ _ h => h) (RsA.rd hs hr)).mono fun en w' hp => ?_
 obtain ⟨us', F, h1, h2, h3⟩ := hp
 obtain ⟨v, ρ', rfl, _, k⟩ := after_call hs hN (imO_eq hi) ⟨us', F, h1, noCr_ok hm h2, h3⟩
 exact hK _ _ (h ρ' _ w' k)
def capsO (B : List (Nat × Nat × List AC)) (R : RL) : List (Nat × Nat) → Option (List (List C))
  | [] => some []
  | (b, 0) :: r => match lk B b with
    | some (_, l) => match rsL R l with
      | some cs => match capsO B R r with
        | some css => some (cs :: css)
        | none => none
      | none => none
    | none => none
  | _ => none
theorem box_rd (hs : Sim X ρ S a w) {b ty : Nat} {l : List AC} {cs : List C} (hb : lk S.B b = some (ty, l)) (hl : L2 (RsC S) l cs) : PeR (fun b => w.heap[b]?) cs (.pointer (some ⟨ρ.box b, 0, none⟩)) := by
 obtain ⟨vs, h1, h2⟩ := hs.hp.B _ (lk_mem hb)
 simp only at h1 h2
 refine ⟨ρ.box b, 0, rfl, fun j c hj => ?_⟩
 have hcell : ∀ {l : List AC} {us : List Value} {l' : List C}, L2 (RepC ρ) l us → L2 (RsC S) l l' → L2 (RdX fun b => w.heap[b]?) l' us := by
  intro l
  induction l with
  | nil => intro us l' h k; match us, l', h, k with | [], [], _, _ => trivial
  | cons c l ih => intro us l' h k; match us, l', h, k with | u :: us, y :: l', h, k => exact ⟨RsC.rd hs.hp h.1 k.1, ih h.2 k.2⟩
 obtain ⟨x, k1, k2⟩ := (hcell h2 hl).get hj
 refine ⟨x, ?_, k2⟩
 unfold rcell
 simp only [h1, Nat.zero_add]
 simpa using k1
theorem caps_rd (hs : Sim X ρ S a w) : ∀ {caps : List (Nat × Nat)} {css : List (List C)}, capsO S.B S.R caps = some css → L2 (PeR fun b => w.heap[b]?) css (caps.map fun p => Value.pointer (some ⟨ρ.box p.1, p.2, none⟩))
  | [], css, h => by cases h; trivial
  | (b, 0) :: r, css, h => by
    have h' : (match lk S.B b with
      | some (_, l) => match rsL S.R l with
        | some cs => match capsO S.B S.R r with
          | some css => some (cs :: css)
          | none => none
        | none => none
      | none => none) = some css := h
    split at h'
    · rename_i ty l hb
      split at h'
      · rename_i cs hl
        split at h'
        · rename_i css' hr
          cases h'
          exact ⟨box_rd hs hb (rsL_ok hl), caps_rd hs hr⟩
        · cases h'
      · cases h'
    · cases h'
  | (b, k + 1) :: r, css, h => by
    have h' : (none : Option (List (List C))) = some css := h
    cases h'
theorem callF_wp {α : Type} {T : List (Nat × AV)} {B : List (Nat × Nat × List AC)} {R R' : RL} {M : List (Nat × (Int → Option Value))} {o : Oper} {f f2 : FuncId} {x1 x2 y : Operand} {tys : Array TypeId} {args : List (Bool × List C)} {fargs : α → List (Bool × List C)} {fres : α → List (Bool × List RC)} {res : List (Bool × List RC)} {caps : List (Nat × Nat)} {css : List (List C)} {nm d : Nat} {av : AV} {K : Act → World → Prop}
  (hF : chkF P f = true) (ho : o.op = .call ⟨.value (.func f), [x1, x2, y].toArray, tys⟩) (hd : o.dst = some d) (hc : PureF P f args fargs fres res) (hr : RsA ⟨T, B, R, M⟩ [x1, x2] args) (hy : opv T y = some (.p false [.fn (.func f2) caps])) (hF2 : chkF P f2 = true) (hcs : capsO B R caps = some css) (h2 : ∀ x, CFn P f2 (fargs x) css (fres x)) (hm : noCr res = true) (hi : imO T B R nm res = some (av, R')) (hN : okD X d = true) (hs : Sim X ρ ⟨T, B, R, M⟩ a w)
  (h : ∀ ρ' v w', Below w.heap.size w w' → Sim X ρ' ⟨(d, av) :: T, B, R', M⟩ (a.put (some d) v) w' → K (a.put (some d) v) w') : Oper.wp P o a w K Q := by
 obtain ⟨od, oop, oty, opos, oaf, og⟩ := o
 simp only at ho hd
 subst ho; subst hd
 unfold Oper.wp
 rw [run_call hF a.eval [x1, x2, y].toArray tys (some d) oty opos oaf og rfl, Oper.upon_enter]
 have hyv : a.eval y = .func (.func f2) #[] (caps.map fun p => Value.pointer (some ⟨ρ.box p.1, p.2, none⟩)).toArray := (opv_rep hs hy).1
 have hcall := hc (fun b => w.heap[b]?) w [a.eval x1, a.eval x2] (a.eval y) (fun _ _ h => h) (RsA.rd hs hr) ⟨f2, _, hyv, hF2, fun x H' W vs hH hW hv => h2 x H' W vs _ hW hv (L2.mono (fun cs u hu => by
  obtain ⟨g, o, e, hc⟩ := hu
  exact ⟨g, o, e, fun j c hj => let ⟨y, k1, k2⟩ := hc j c hj; ⟨y, rcell_mono hH k1, RdX.mono hH k2⟩⟩) (caps_rd hs hcs))⟩
 have e : [x1, x2, y].toArray.map a.eval = ([a.eval x1, a.eval x2] ++ [a.eval y]).toArray := by simp
 rw [e]
 refine hcall.mono fun en w' hp => ?_
 obtain ⟨us', F, h1, h2, h3⟩ := hp
 obtain ⟨v, ρ', rfl, hb, k⟩ := after_call hs hN (imO_eq hi) ⟨us', F, h1, noCr_ok hm h2, h3⟩
 exact h ρ' v w' hb k
theorem rdo_callF {α : Type} {T : List (Nat × AV)} {B : List (Nat × Nat × List AC)} {R R' : RL} {M : List (Nat × (Int → Option Value))} {Q : Act → World → Prop} {ks : List Nat} {fuel i : Nat} {listed : Array Bool} {g : Option (Nat × Bool)} {f f2 : FuncId} {x1 x2 y : Operand} {tys : Array TypeId} {args : List (Bool × List C)} {fargs : α → List (Bool × List C)} {fres : α → List (Bool × List RC)} {res : List (Bool × List RC)} {caps : List (Nat × Nat)} {css : List (List C)} {nm d ty : Nat} {av : AV} {pos : String} {af : Array Edge}
  (hi0 : ops[i]? = some ⟨some d, .call ⟨.value (.func f), [x1, x2, y].toArray, tys⟩, ty, pos, af, g⟩) (hg : GOk ops T g) (hF : chkF P f = true) (hc : PureF P f args fargs fres res) (hr : RsA ⟨T, B, R, M⟩ [x1, x2] args) (hy : opv T y = some (.p false [.fn (.func f2) caps])) (hF2 : chkF P f2 = true) (hcs : capsO B R caps = some css) (h2 : ∀ x, CFn P f2 (fargs x) css (fres x)) (hm : noCr res = true) (hi : imO T B R nm res = some (av, R')) (hN : okD X d = true)
  (h : RDk P X ops ks fuel (listed.setIfInBounds i true) ⟨(d, av) :: T, B, R', M⟩ Q) : RDo P X ops ks fuel listed i ⟨T, B, R, M⟩ Q := by
 intro ρ a w hs
 refine wpOp_step hi0 fun K' hK => ?_
 rw [if_pos (GOk.wanted (o := ⟨some d, .call ⟨.value (.func f), [x1, x2, y].toArray, tys⟩, ty, pos, af, g⟩) hs hg)]
 refine callF_wp hF rfl rfl hc hr hy hF2 hcs h2 hm hi hN hs fun ρ' v w' hb hs' => hK _ _ ⟨fun _ => hb, ?_⟩
 exact wpAnyK_mono (fun W hW => hb.trans (hW.mono hb.size)) _ _ _ _ (h ρ' _ w' hs')
theorem q_mkf3 {f : FuncId} {x y z : Operand} {b1 b2 b3 o1 o2 o3 : Nat} (h1 : opv S.T x = some (.p false [.pb b1 o1])) (h2 : opv S.T y = some (.p false [.pb b2 o2])) (h3 : opv S.T z = some (.p false [.pb b3 o3])) : Quiet P X S (.makeFunc (.func f) #[] #[x, y, z]) (.p false [.fn (.func f) [(b1, o1), (b2, o2), (b3, o3)]]) := fun ρ a w hs => by
 have e1 : a.eval x = .pointer (some ⟨ρ.box b1, o1, none⟩) := (opv_rep hs h1).1
 have e2 : a.eval y = .pointer (some ⟨ρ.box b2, o2, none⟩) := (opv_rep hs h2).1
 have e3 : a.eval z = .pointer (some ⟨ρ.box b3, o3, none⟩) := (opv_rep hs h3).1
 exact ⟨_, ⟨rfl, trivial⟩, fun _ _ _ _ _ _ _ => by simp [execOp, Instr.makeFunc, e1, e2, e3]⟩
end
section
variable {P : Program} {X : Cx} {S : St} {ρ : Rho} {a : Act} {w : World} {TT : List (Nat × TI)}
theorem all3_nils : ∀ {m : Nat} {vs : List Value}, L2 (RepC ρ) (List.replicate m (.c .nil)) vs → All3 (OwX w) (List.replicate m C.nil) vs (List.replicate m [])
 | 0, [], _ => trivial
 | 0, _ :: _, h => h.elim
 | m + 1, [], h => h.elim
 | m + 1, v :: vs, h => ⟨⟨0, rd_nil h.1, rfl⟩, all3_nils h.2⟩
theorem flat_ones {α : Type} {x : α} : ∀ m, (List.replicate m [x]).flatten = List.replicate m x
 | 0 => rfl
 | m + 1 => by rw [List.replicate_succ, List.flatten_cons, flat_ones m, List.replicate_succ]; rfl
theorem flat_nils : ∀ m, (List.replicate m ([] : List Nat)).flatten = []
 | 0 => rfl
 | m + 1 => by rw [List.replicate_succ, List.flatten_cons, flat_nils m]; rfl
theorem ev_arr {Q : Exit → Act → World → Prop} {c : Code} {T : List (Nat × AV)} {B B' : List (Nat × Nat × List AC)} {R : RL} {M : List (Nat × (Int → Option Value))} {b ty : Nat} {cs : List AC} (t nm m : Nat) (hb : lk B b = some (ty, cs)) (hcs : cs = List.replicate m (.c .nil)) (ht : lk T t = some (.p false [.pb b 0])) (hB : remB [b] B = some B') (hm : m ≤ maxLen) (hm0 : 0 < m) (hf : freshR nm ⟨T, B', R, M⟩ = true)
  (h : Ev P X c Q ⟨(t, .p false [.pr nm 1 0 0]) :: T, B', (nm, ty, 1, List.replicate m [.nil]) :: R, M⟩) : Ev P X c Q ⟨T, B, R, M⟩ := by
 intro ρ a w hs
 subst hcs
 obtain ⟨vs, e1, r1⟩ := hs.hp.B _ (lk_mem hb)
 simp only at e1 r1
 have hvl : vs.length = m := by rw [r1.len, List.length_replicate]
 have hsub := remB_sub hB
 have hfe : (feet ρ ⟨T, B', R, M⟩).Sublist (feet ρ ⟨T, B, R, M⟩) := by
  unfold feet
  exact (hsub.map _).append (List.Sublist.refl _)
 have hs0 : Sim X ρ ⟨T, B', R, M⟩ a w := ⟨⟨hs.hp.H, fun x hx => hs.hp.B x (hsub.subset hx), hs.hp.R, hs.hp.M, hfe.nodup hs.hp.nd, fun b hb => hs.hp.dj b (hfe.subset hb)⟩, hs.T, hs.df, hs.sz, hs.fr, fun b hb => hs.ft b (hfe.subset hb)⟩
 have hbf : ρ.box b ∈ feet ρ ⟨T, B, R, M⟩ := List.mem_append_left _ (List.mem_map.2 ⟨_, lk_mem hb, rfl⟩)
 have hno : ρ.box b ∉ feet ρ ⟨T, B', R, M⟩ := by
  intro hm9
  have hnd := hs.hp.nd
  unfold feet at hnd hm9
  obtain ⟨n1, _, n3⟩ := List.nodup_append.1 hnd
  rcases List.mem_append.1 hm9 with h9 | h9
  ·obtain ⟨x, hx, e⟩ := List.mem_map.1 h9
   have h8 := map_inj n1 _ (hsub.subset hx) _ (lk_mem hb) e
   have key : ∀ {B B' : List (Nat × Nat × List AC)}, remB [b] B = some B' → ∀ x ∈ B', x.1 ≠ b := by
    intro B
    induction B with
    | nil => intro B' h x hx; cases h; simp at hx
    | cons y r ih =>
     obtain ⟨k, y⟩ := y
     intro B' h x hx
     unfold remB at h
     split at h
     ·exact ih h x hx
     ·rename_i hk
      split at h
      ·rename_i r' hr
       cases h
       rcases List.mem_cons.1 hx with rfl | hx
       ·intro e; subst e; simp at hk
       ·exact ih hr x hx
      ·cases h
   exact key hB x hx (congrArg (fun z => z.1) h8)
  ·exact n3 _ (List.mem_map.2 ⟨_, lk_mem hb, rfl⟩) _ h9 rfl
 have ho : OwS w ty 1 (List.replicate m [.nil]) (.slice (some ⟨ρ.box b, 0, none⟩) m m) vs [ρ.box b] := by
  refine ⟨List.replicate m [], ⟨⟨by rw [List.length_replicate]; omega, .inr ⟨ρ.box b, m, vs.toArray, by rw [List.length_replicate], Nat.zero_le _, e1, by rw [List.length_replicate]; exact Nat.le_refl _, hm, by simp; omega, ?_⟩⟩, fun cs hcs => ?_, ?_⟩, ?_⟩
  ·rw [List.length_replicate]
   show vs.take (m * 1) = vs
   exact List.take_of_length_le om
  ·rw [List.eq_of_mem_replicate hcs]; rfl
  ·rw [flat_ones]; exact all3_nils r1
  ·rw [flat_nils]; rfl
 have hs1 := hs0.newroot (nm := nm) ho (by simp) (fun g hg => by
  rw [List.mem_singleton.1 hg]
  exact ⟨hno, hs.hp.dj _ hbf, hs.ft _ hbf⟩) hf
 refine h _ a w ⟨⟨hs1.hp.H, hs1.hp.B, hs1.hp.R, hs1.hp.M, hs1.hp.nd, hs1.hp.dj⟩, fun k av hk => ?_, hs1.df, hs1.sz, hs1.fr, hs1.ft⟩
 have hk' : (if t = k then some (AV.p false [.pr nm 1 0 0]) else lk T k) = some av := hk
 by_cases e : t = k
 ·rw [if_pos e] at hk'
  cases hk'
  obtain ⟨v, h1, h2⟩ := hs.T _ _ ht
  have hv : v = .pointer (some ⟨ρ.box b, 0, none⟩) := h2.1
  subst hv
  refine ⟨_, by rw [← e]; exact h1, ⟨⟨ρ.box b, ?_, rfl⟩, trivial⟩⟩
  show Value.ownBlock (if nm = nm then Value.slice (some ⟨ρ.box b, 0, none⟩) m m else _) = _
  rw [if_pos rfl]; rfl
 ·rw [if_neg e] at hk'
  exact hs1.T k av hk'
theorem qw_ix_arrp {t : TypeId} {x ix : Operand} {i : Int} {k : IntKind} {s b len e r : Nat} {z : List C} {g : Bool} (m : Nat) (hT : TTOk P TT) (ht : lk TT t = some ⟨s, b, z, .ar len e 1 g⟩) (hx : opv S.T x = some (.p false [.pr r 1 0 0])) (hi : opv S.T ix = some (.p false [.c (.v (.int k i))])) (him : i = (m : Int)) (hm : m < len) : QuietW P X S (.indexAddr t x ix) (.p false [.pr r 1 m 0]) := by
 intro ρ a w hs
 subst him
 have hq : a.eval ix = .int k (m : Int) := rd_v (opv_rep hs hi).1
 obtain ⟨hu, hsz, h3, _, _⟩ := arr_ok hT ht
 obtain ⟨g9, hg9, hp⟩ := (opv_rep hs hx).1
 refine ⟨.pointer (some ⟨g9, m * 1 + 0, none⟩), ⟨⟨g9, hg9, rfl⟩, trivial⟩, fun _ _ _ _ _ w' => ?_⟩
 have h5 := h3 w'
 simp [execOp, Instr.indexAt, hp, hq, asIntOf, run_underlying hu, hm, h5, addr_add, Instr.sureAddr]
theorem q_ix_arrp {t : TypeId} {x ix : Operand} {i : Int} {k : IntKind} {s b len e r : Nat} {z : List C} {g : Bool} (m : Nat) (hT : TTOk P TT) (ht : lk TT t = some ⟨s, b, z, .ar len e 1 g⟩) (hx : opv S.T x = some (.p false [.pr r 1 0 0])) (hi : opv S.T ix = some (.p false [.c (.v (.int k i))])) (him : i = (m : Int)) (hm : m < len) : Quiet P X S (.indexAddr t x ix) (.p false [.pr r 1 m 0]) := (qw_ix_arrp m hT ht hx hi him hm).q
def subsF (r : Nat) : Nat → Nat → List AC
 | _, 0 => []
 | k, m + 1 => .sub r 1 k 0 :: subsF r (k + 1) m
theorem subsF_get {r : Nat} : ∀ {m k j : Nat}, j < m → (subsF r k m)[j]? = some (.sub r 1 (k + j) 0)
 | 0, _, _, h => by omega
 | m + 1, k, 0, _ => rfl
 | m + 1, k, j + 1, h => by
  show (subsF r (k + 1) m)[j]? = _
  rw [subsF_get om]
  simp only [Option.some.injEq, AC.sub.injEq, true_and, and_true]
  omega
theorem q_load_arrp {t : TypeId} {x : Operand} {r ty : Nat} {rows : List (List C)} {i : TI} {m : Nat} (hT : TTOk P TT) (hi : lk TT t = some i) (hx : opv S.T x = some (.p false [.pr r 1 0 0])) (hr : lk S.R r = some (ty, 1, rows)) (hl : rows.length = m) (hm : i.size = m) (hg : i.sh.agg = true) : Quiet P X S (.load t x) (.p true (subsF r 0 m)) := by
 intro ρ a w hs
 have ht := hT t i hi
 obtain ⟨g, hg9, hp⟩ := (opv_rep hs hx).1
 obtain ⟨Fs, ⟨h1, h2, h3⟩, h4⟩ := hs.hp.R _ (lk_mem hr)
 have hone := All3.ones h3
 have hxl : (ρ.rows r).length = m := by have h9 : (ρ.rows r).length = rows.length * 1 := h1.1; omega
 have hcell := h1.cells hg9
 have hrep : ∀ (us : List Value) (k : Nat), (∀ j u, us[j]? = some u → (ρ.rows r)[k + j]? = some u) → L2 (RepC ρ) (subsF r k us.length) us := by
  intro us
  induction us with
  | nil => intro k _; trivial
  | cons u us ih =>
   intro k h
   have h0 := h 0 u rfl
   refine ⟨⟨by rw [show k * 1 + 0 = k + 0 by omega]; exact h0, hone u (List.mem_of_getElem? h0)⟩, ih (k + 1) fun j v hj => ?_⟩
   rw [show k + 1 + j = k + (j + 1) by omega]
   exact h (j + 1) v (by simpa using hj)
 have hR := hrep (ρ.rows r) 0 (fun j u hj => by rw [Nat.zero_add]; exact hj)
 rw [hxl] at hR
 refine ⟨.agg (ρ.rows r).toArray, ⟨ρ.rows r, rfl, hR⟩, fun d ty' pos af g' w' hw => ?_⟩
 have hgl := (h1.lt g hg9).2
 have hc : ∀ (j : Nat) (u : Value), (ρ.rows r)[j]? = some u → w'.cell? ⟨g, 0 * 1 + 0 + j, none⟩ = some u := fun j u hj => by
  rw [hw.cell (p := ⟨g, 0 * 1 + 0 + j, none⟩) hgl]
  have := hcell _ u hj
  rw [addr_add] at this
  exact this
 have := run_load_cells (w := w') ht hc om
 rw [hg] at this
 have e : mkV true (ρ.rows r) = .agg (ρ.rows r).toArray := rfl
 rw [e] at this
 simp [execOp, hp, this]
theorem q_index_sub {t : TypeId} {x ix : Operand} {i : Int} {k : IntKind} {s b len e r n : Nat} {z : List C} (m : Nat) (hT : TTOk P TT) (ht : lk TT t = some ⟨s, b, z, .ar len e 1 false⟩) (hx : opv S.T x = some (.p true (subsF r 0 n))) (hi : opv S.T ix = some (.p false [.c (.v (.int k i))])) (him : i = (m : Int)) (hn : n = len) (hm : m < len) : Quiet P X S (.index t x ix) (.p false [.sub r 1 m 0]) := by
 refine QuietW.q fun ρ a w hs => ?_
 subst him
 have hq : a.eval ix = .int k (m : Int) := rd_v (opv_rep hs hi).1
 obtain ⟨hu, hsz, h3, h4, h5⟩ := arr_ok hT ht
 obtain ⟨vs, hp, hr2⟩ := opv_rep hs hx
 obtain ⟨u, hu1, hu2⟩ := hr2.get (subsF_get (r := r) (m := n) (k := 0) (j := m) om)
 rw [Nat.zero_add] at hu2
 refine ⟨u, ⟨hu2, trivial⟩, fun d ty pos af gg w' => ?_⟩
 have hpart : (part e vs.toArray (m * 1)).run P w' = .ok u w' := by
  unfold part
  simp only [Sem.run_bind, h4, Result.andThen_ok, Nat.mul_one]
  have : vs.getD m undef = u := by rw [List.getD_eq_getElem?_getD, hu1]; rfl
  simp [hu1]
 rw [Nat.mul_one] at hpart
 simp [execOp, Instr.index, hp, hq, asIntOf, run_underlying hu, hm, h3 w', hpart]
theorem rs_c3 {S : St} {x y z : Operand} {l : List AC} {l' : List C} {c zz : C} {r n k j ty : Nat} {rows : List (List C)} {cs : List C} (hx : opv S.T x = some (.p true l)) (hl : rsL S.R l = some l') (hy : opv S.T y = some (.p false [.c c])) (hz : opv S.T z = some (.p false [.sub r n k j])) (hr : lk S.R r = some (ty, n, rows)) (hk : rows[k]? = some cs) (hj : cs[j]? = some zz) : RsA S [x, y, z] [(true, l'), (false, [c]), (false, [zz])] :=
 ⟨⟨l, hx, rsL_ok hl⟩, ⟨_, hy, rfl, trivial⟩, ⟨_, hz, ⟨ty, rows, cs, hr, hk, hj⟩, trivial⟩, trivial⟩
variable {Q : Act → World → Prop} {ops : Array Oper} {fuel : Nat} {listed : Array Bool}
theorem rdh_3 (i j k : Nat) (hr : Region.ready .any ops listed = [i, j, k]) (h1 : RDho P X ops fuel listed i S Q) (h2 : RDho P X ops fuel listed j S Q) (h3 : RDho P X ops fuel listed k S Q) : RDh P X ops (fuel + 1) listed S Q :=
 fun ρ a w hs => ⟨fun h0 => absurd h0 (by rw [hr]; simp), fun q hq => by
  rw [hr] at hq
  rcases List.mem_cons.1 hq with rfl | hq
  ·exact h1 ρ a w hs
  ·rcases List.mem_cons.1 hq with rfl | hq
   ·exact h2 ρ a w hs
   ·obtain rfl := List.mem_singleton.1 hq
    exact h3 ρ a w hs⟩
end
structure DS (n : Nat) where
 i : Nat
 h : Int
 ok : i ≤ n ∧ 0 ≤ h ∧ h ≤ 18446744073709551615
@[reducible] def byteC (x : Int) : List C := [.v (.int .u8 x)]
@[reducible] def bytes (l : List Int) : C := .s 1 (l.map byteC)
@[reducible] def diceA {n : Nat} (v0 : Value) (δ : DS n) : List AC := [.c (.v v0), .c (iC δ.i), .c (.v (.int .u64 δ.h))]
def DiceAt {n : Nat} (TD g : Nat) (v0 : Value) (δ : DS n) (w : World) : Prop := w.heap[g]? = some (.cells [v0, .int .i64 δ.i, .int .u64 δ.h].toArray TD (0, 0))
def Src (H : Nat → Option Obj) (v0 : Value) (n : Nat) : Prop := ∃ l : List Int, l.length = n ∧ RdX H (bytes l) v0 ∧ (∀ x ∈ l, 0 ≤ x ∧ x ≤ 255) ∧ n ≤ 4096
theorem Src.mono {H G : Nat → Option Obj} {v0 : Value} {n : Nat} (h : Src H v0 n) (hm : ∀ b o, H b = some o → G b = some o) : Src G v0 n := let ⟨l, h1, h2, h3⟩ := h; ⟨l, h1, h2.mono hm, h3⟩
theorem Src.one {H : Nat → Option Obj} {v0 : Value} {n : Nat} (h : Src H v0 n) : v0.oneCell' = true := let ⟨_, _, h2, _⟩ := h; h2.one
def RollPost {α : Type} (H : Nat → Option Obj) (TD g : Nat) (v0 : Value) (n : Nat) (q : α → Prop) (res : α → List (Bool × List RC)) (w : World) (e : Ending) (w' : World) : Prop :=
 ∃ (x : α) (δ : DS n) (us : List Value) (F : List Nat), q x ∧ DiceAt TD g v0 δ w' ∧ e = .returned (retV us) ∧ OwPs H w' (res x) us F ∧ F.Nodup ∧ (∀ b ∈ F, w.heap.size ≤ b) ∧ Chg w w' [g]
def Rolls (P : Program) (TD : Nat) (f : FuncId) (args : List (Bool × List C)) {α : Type} (q : α → Prop) (res : α → List (Bool × List RC)) : Prop :=
 ∀ (H : Nat → Option Obj) (w : World) (g : Nat) (v0 : Value) (n : Nat) (δ : DS n) (vs : List Value), (∀ b o, H b = some o → w.heap[b]? = some o) → H g = none → Src H v0 n → DiceAt TD g v0 δ w → L2 (Pc H) args vs → Calls P f (.pointer (some ⟨g, 0, none⟩) :: vs).toArray w (RollPost H TD g v0 n q res w)
section
variable {P : Program} {X : Cx} {S : St} {ρ : Rho} {a : Act} {w : World} {TT : List (Nat × TI)} {TD : Nat}
theorem rolls_intro {α : Type} {q : α → Prop} {res : α → List (Bool × List RC)} {f : FuncId} {fn : Func} {c : Code} {args : List (Bool × List C)} {T : List (Nat × AV)} {N : Nat} (hf : P.funcs[f]? = some fn) (hb : fn.body = some c) (hN : fn.ntmps = N) (hl : Nat.ble (args.length + 1) N = true) (hT : argT 1 args = some T)
  (h : ∀ H w g v0 n (δ : DS n), Src H v0 n → Ev P ⟨N, w, [g], H, [(0, .pointer (some ⟨g, 0, none⟩))], []⟩ c (bodyPost P fn (RollPost H TD g v0 n q res w)) ⟨(0, .p false [.pb 0 0]) :: T, [(0, TD, diceA v0 δ)], [], []⟩) : Rolls P TD f args q res := by
 intro H w g v0 n δ vs hH hg hs hd hv
 refine calls_of_wp hf hb ?_
 have hle := Nat.le_of_ble_eq_true hl
 have hvl := hv.len
 refine h H w g v0 n δ hs ⟨H, fun _ => g, fun _ => undef, fun _ => [], fun _ => []⟩ _ w ⟨⟨hH, fun x hx => ?_, by simp, by simp, by simp [feet], fun b hb => ?_⟩, fun t av ht => ?_, ⟨rfl, rfl⟩, ⟨by simp [hN]; omega, fun x hx => ?_⟩, Chg.refl _ _, fun b hb => ?_⟩
 ·obtain rfl := List.mem_singleton.1 hx
  exact ⟨_, hd, ⟨⟨0, rfl, hs.one⟩, ⟨0, rfl, rfl⟩, ⟨0, rfl, rfl⟩, trivial⟩⟩
 ·have : b = g := by simpa [feet] using hb
  rw [this]; exact hg
 ·have ht' : (if 0 = t then some (AV.p false [AC.pb 0 0]) else lk T t) = some av := ht
  by_cases e : 0 = t
  ·rw [if_pos e] at ht'
   cases ht'
   subst e
   refine ⟨.pointer (some ⟨g, 0, none⟩), ?_, ⟨rfl, trivial⟩⟩
   show ((Value.pointer (some ⟨g, 0, none⟩) :: vs).toArray ++ _)[0]? = _
   rw [Array.getElem?_append_left (by simp)]
   rfl
  ·rw [if_neg e] at ht'
   obtain ⟨h0, u, h1, h2⟩ := argT_rep (ρ := ⟨H, fun _ => g, fun _ => undef, fun _ => [], fun _ => []⟩) hT hv t av ht'
   refine ⟨u, ?_, h2⟩
   have hlt : t - 1 < vs.length := (List.getElem?_eq_some_iff.1 h1).1
   show ((Value.pointer (some ⟨g, 0, none⟩) :: vs).toArray ++ _)[t]? = some u
   rw [Array.getElem?_append_left (by simp; omega)]
   simp only [List.getElem?_toArray]
   rw [show t = (t - 1) + 1 by omega, List.getElem?_cons_succ]
   exact h1
 ·obtain rfl := List.mem_singleton.1 hx
  show ((Value.pointer (some ⟨g, 0, none⟩) :: vs).toArray ++ _)[0]? = _
  rw [Array.getElem?_append_left (by simp)]
  rfl
 ·have : b = g := by simpa [feet] using hb
  exact .inl (by simp [this])
theorem pin_box {t nb g : Nat} (hs : Sim X ρ S a w) (hk : lk X.K t = some (.pointer (some ⟨g, 0, none⟩))) (ht : lk S.T t = some (.p false [.pb nb 0])) : ρ.box nb = g := by
 obtain ⟨v, h1, h2⟩ := hs.T t _ ht
 have h3 := hs.sz.2 _ (lk_mem hk)
 simp only at h3
 rw [h3] at h1
 cases h1
 have h4 : Value.pointer (some ⟨g, 0, none⟩) = Value.pointer (some ⟨ρ.box nb, 0, none⟩) := h2.1
 injection h4 with h4
 injection h4 with h4
 injection h4 with h4
 exact h4.symm
theorem dice_heap {nb n : Nat} {v0 : Value} {δ : DS n} (hs : Sim X ρ S a w) (hB : lk S.B nb = some (TD, diceA v0 δ)) : w.heap[ρ.box nb]? = some (.cells [v0, .int .i64 δ.i, .int .u64 δ.h].toArray TD (0, 0)) := by
 obtain ⟨vs, h1, h2⟩ := hs.hp.B _ (lk_mem hB)
 match vs, h2 with
 | [a, b, c], h2 =>
  obtain rfl : a = v0 := rd_v h2.1
  obtain rfl : b = _ := rd_v h2.2.1
  obtain rfl : c = _ := rd_v h2.2.2.1
  exact h1
theorem box_feet {nb : Nat} {x : Nat × List AC} (hB : lk S.B nb = some x) : ρ.box nb ∈ feet ρ S := List.mem_append_left _ (List.mem_map.2 ⟨_, lk_mem hB, rfl⟩)
theorem box_foot {nb r : Nat} {x : Nat × List AC} {y : Nat × Nat × List (List C)} (hs : Hp ρ S w) (hB : lk S.B nb = some x) (hr : (r, y) ∈ S.R) : ρ.box nb ∉ ρ.foot r := fun hm => by
 have hnd := hs.nd
 unfold feet at hnd
 exact (List.nodup_append.1 hnd).2.2 _ (List.mem_map.2 ⟨_, lk_mem hB, rfl⟩) _ (List.mem_append_left _ (List.mem_flatMap.2 ⟨_, hr, hm⟩)) rfl
theorem ret_roll {α : Type} {q : α → Prop} {res : α → List (Bool × List RC)} {fn : Func} {N n g : Nat} {w0 : World} {H : Nat → Option Obj} {v0 : Value} {ps : List (Bool × List AC)} {res' : List (Bool × List RC)} (x : α) (δ : DS n) (hT : TTOk P TT) (h1 : retPs TT S fn.results.toList = some ps) (h2 : toRCs S.R ps = some res') (h0 : lk S.T 0 = some (.p false [.pb 0 0])) (hB : lk S.B 0 = some (TD, diceA v0 δ)) (he : RpLe res' (res x)) (hq : q x) :
  EvE ⟨N, w0, [g], H, [(0, .pointer (some ⟨g, 0, none⟩))], []⟩ .ret (bodyPost P fn (RollPost H TD g v0 n q res w0)) S := by
 intro ρ a w hs
 obtain ⟨us, h3, h4⟩ := results_ok hT hs h1
 have hnd := hs.hp.nd
 unfold feet at hnd
 obtain ⟨n1, n2, n3⟩ := List.nodup_append.1 hnd
 obtain ⟨F, h5, h6, h7⟩ := toRCs_ok hs.hp.R (fun x hx => hx) h2 h3 (List.nodup_append.1 n2).1
 rw [hs.df.2] at h5
 have hg := pin_box (t := 0) (nb := 0) (g := g) hs rfl h0
 have hd := dice_heap hs hB
 rw [hg] at hd
 refine ⟨hs.df.1, _, h4, x, δ, us, F, hq, hd, rfl, he.ow h5, h6, fun b hb => ?_, hs.fr⟩
 rcases hs.ft b (List.mem_append_right _ (List.mem_append_left _ (h7 b hb))) with h9 | h9
 ·obtain rfl : b = g := by simpa using h9
  exact absurd hg (n3 (ρ.box 0) (List.mem_map.2 ⟨_, lk_mem hB, rfl⟩) b (List.mem_append_left _ (h7 b hb)))
 ·exact h9
def HG (w : World) (g : Nat) : Nat → Option Obj := fun b => if b = g then none else w.heap[b]?
theorem RsC.rdG {nb : Nat} {z : Nat × List AC} (hp : Hp ρ S w) (hB : lk S.B nb = some z) {x : AC} {y : C} {u : Value} (hu : RepC ρ x u) (h : RsC S x y) : RdX (HG w (ρ.box nb)) y u := by
 cases x with
 | c z =>
  rw [show y = z from h]
  refine RdX.mono (fun b o hb => ?_) hu
  unfold HG
  rw [if_neg (fun e => by have := hp.dj _ (box_feet hB); rw [← e, hb] at this; cases this)]
  exact hp.H b o hb
 | rt r =>
  obtain ⟨ty, n, l, h1, rfl⟩ := h
  rw [show u = ρ.root r from hu.1]
  exact (hp.R _ (lk_mem h1)).c.read fun b hb => by
   unfold HG
   rw [if_neg fun e => box_foot hp hB (lk_mem h1) (by rw [← e]; exact hb)]
 | sub r n k j =>
  obtain ⟨ty, l, cs, h1, h2, h3⟩ := h
  obtain ⟨Fs, ⟨h4, h5, h6⟩, hF⟩ := hp.R _ (lk_mem h1)
  obtain ⟨x, F, h7, h9, h8⟩ := h6.get (flat_at h5 h2 h3)
  rw [hu.1] at h7
  cases h7
  have hF : ρ.foot r = _ := hF
  refine h8.read fun b hb => ?_
  have hm : b ∈ ρ.foot r := by
   rw [hF]
   exact List.mem_append_right _ (List.mem_flatten.2 ⟨F, List.mem_of_getElem? h9, hb⟩)
  unfold HG
  rw [if_neg fun e => box_foot hp hB (lk_mem h1) (by rw [← e]; exact hm)]
 | _ => exact h.elim
theorem RsA.rdG {nb : Nat} {z : Nat × List AC} (hs : Sim X ρ S a w) (hB : lk S.B nb = some z) : ∀ {xs : List Operand} {args : List (Bool × List C)}, RsA S xs args → L2 (Pc (HG w (ρ.box nb))) args (xs.map a.eval)
 | [], [], _ => trivial
 | x :: xs, (g, l') :: args, h => by
  obtain ⟨⟨l, h1, h2⟩, h3⟩ := h
  refine ⟨?_, RsA.rdG hs hB h3⟩
  have h4 := opv_rep hs h1
  have hcell : ∀ {l : List AC} {us : List Value} {l' : List C}, L2 (RepC ρ) l us → L2 (RsC S) l l' → L2 (RdX (HG w (ρ.box nb))) l' us := by
   intro l
   induction l with
   | nil => intro us l' h k; match us, l', h, k with | [], [], _, _ => trivial
   | cons c l ih => intro us l' h k; match us, l', h, k with | u :: us, y :: l', h, k => exact ⟨RsC.rdG hs.hp hB h.1 k.1, ih h.2 k.2⟩
  have h5 : RepP ρ (g, l) (a.eval x) := h4
  unfold RepP at h5
  unfold Pc
  split
  ·rename_i hg
   rw [if_pos hg] at h5
   obtain ⟨us, hu, h6⟩ := h5
   exact ⟨us, hu, hcell h6 h2⟩
  ·rename_i hg
   rw [if_neg hg] at h5
   exact hcell h5 h2
 | [], _ :: _, h => h.elim
 | _ :: _, [], h => h.elim
theorem Sim.turn {w' : World} {nb ty : Nat} {cs : List AC} {us : List Value} {B' : List (Nat × Nat × List AC)} {z : Nat × List AC} (hs : Sim X ρ S a w) (hB : lk S.B nb = some z) (hz : z.1 = ty) (hu : updB nb cs S.B = some B') (hc : Chg w w' [ρ.box nb]) (h1 : w'.heap[ρ.box nb]? = some (.cells us.toArray ty (0, 0))) (h2 : L2 (RepC ρ) cs us) : Sim X ρ ⟨S.T, B', S.R, S.M⟩ a w' := by
 obtain ⟨vs, h3, _⟩ := hs.hp.B _ (lk_mem hB)
 have h3 : w.heap[ρ.box nb]? = _ := h3
 obtain ⟨o, ho⟩ : ∃ o, o = Obj.cells vs.toArray z.1 (0, 0) := ⟨_, rfl⟩
 rw [← ho] at h3
 obtain ⟨w1, hw1⟩ : ∃ w1 : World, w1 = { w' with heap := w'.heap.setIfInBounds (ρ.box nb) o } := ⟨_, rfl⟩
 have hlt' := heap_lt h1
 have e1 : w1.heap[ρ.box nb]? = some o := by rw [hw1]; simp [hlt']
 have e2 : ∀ k, k ≠ ρ.box nb → w'.heap[k]? = w1.heap[k]? := fun k hk => by
  rw [hw1]
  show w'.heap[k]? = (w'.heap.setIfInBounds (ρ.box nb) o)[k]?
  rw [Array.getElem?_setIfInBounds_ne (Ne.symm hk)]
 have hb : Below w.heap.size w w1 := by
  refine ⟨by rw [hw1]; exact hc.os, by rw [hw1]; exact hc.tape, by rw [hw1]; exact hc.output, by rw [hw1]; simpa using hc.size, fun k hk => ?_⟩
  by_cases e : k = ρ.box nb
  ·rw [e, e1, h3]
  ·rw [← e2 k e, hc.block k hk (by simpa using e)]
 have hs1 := hs.next hb
 obtain ⟨p, ty', l, q, hBe, rfl, hlk⟩ := updB_eq hu
 rw [hB] at hlk
 cases hlk
 subst hz
 have hw := hs1.hp.write (T := S.T) hBe h1 h2 e2
 refine ⟨hw, hs.T, hs.df, hs.sz, hs.fr.step hc fun x hx => ?_, ?_⟩
 ·rw [List.mem_singleton.1 hx]
  exact hs.ft _ (box_feet hB)
 ·have hf : feet ρ ⟨S.T, p ++ (nb, ty', cs) :: q, S.R, S.M⟩ = feet ρ S := by unfold feet; rw [hBe]; simp
  rw [hf]; exact hs.ft
theorem roll_wp {α : Type} {qq : α → Prop} {res : α → List (Bool × List RC)} {o : Oper} {f : FuncId} {x : Operand} {xs : List Operand} {tys : Array TypeId} {args : List (Bool × List C)} {nb n nm d : Nat} {v0 : Value} {δ : DS n} {T : List (Nat × AV)} {B : List (Nat × Nat × List AC)} {R : RL} {M : List (Nat × (Int → Option Value))} {K : Act → World → Prop} {Q : Exit → Act → World → Prop}
  (hF : chkF P f = true) (ho : o.op = .call ⟨.value (.func f), (x :: xs).toArray, tys⟩) (hd : o.dst = some d) (hc : Rolls P TD f args qq res) (hx : opv T x = some (.p false [.pb nb 0])) (hB : lk B nb = some (TD, diceA v0 δ)) (hsrc : Src X.H v0 n) (hr : RsA ⟨T, B, R, M⟩ xs args) (hm : ∀ x, noCr (res x) = true) (hs : Sim X ρ ⟨T, B, R, M⟩ a w)
  (h : ∀ (y : α) (δ' : DS n), qq y → ∃ av B' R', updB nb (diceA v0 δ') B = some B' ∧ imO T B' R nm (res y) = some (av, R') ∧ okD X d = true ∧ ∀ ρ' v w', Chg w w' [ρ.box nb] → ρ'.box = ρ.box → Sim X ρ' ⟨(d, av) :: T, B', R', M⟩ (a.put (some d) v) w' → K (a.put (some d) v) w') : Oper.wp P o a w K Q := by
 obtain ⟨od, oop, oty, opos, oaf, og⟩ := o
 simp only at ho hd
 subst ho; subst hd
 unfold Oper.wp
 rw [run_call hF a.eval (x :: xs).toArray tys (some d) oty opos oaf og rfl]
 rw [Oper.upon_enter]
 have ex : a.eval x = .pointer (some ⟨ρ.box nb, 0, none⟩) := (opv_rep hs hx).1
 have e : (x :: xs).toArray.map a.eval = (Value.pointer (some ⟨ρ.box nb, 0, none⟩) :: xs.map a.eval).toArray := by simp [ex]
 rw [e]
 have hH : ∀ b o, ρ.H b = some o → HG w (ρ.box nb) b = some o := fun b o hb => by
  unfold HG
  rw [if_neg (fun e => by have := hs.hp.dj _ (box_feet hB); rw [← e, hb] at this; cases this)]
  exact hs.hp.H b o hb
 refine (hc (HG w (ρ.box nb)) w (ρ.box nb) v0 n δ _ (fun b o hb => ?_) (if_pos rfl) (hsrc.mono fun b o hb => hH b o (by rw [hs.df.2]; exact hb)) (dice_heap hs hB) (RsA.rdG hs hB hr)).mono fun en w' hpost => ?_
 ·unfold HG at hb
  split at hb
  ·cases hb
  ·exact hb
 obtain ⟨y, δ', us, F, hq, hd', rfl, h1, h2, h3, h4⟩ := hpost
 obtain ⟨av, B', R', k1, k2, k3, k4⟩ := h y δ' hq
 have hs' := hs.turn hB rfl k1 h4 hd' ⟨⟨0, rfl, hsrc.one⟩, ⟨0, rfl, rfl⟩, ⟨0, rfl, rfl⟩, trivial⟩
 obtain ⟨ps, hp, rfl⟩ := impO_eq (imO_eq (M := M) k2)
 obtain ⟨ρ', j1, j2, j3, _⟩ := impPs_ok hp hs' (noCr_ok (hm y) h1) h2 (fun b hb => by
  have hge := h3 b hb
  have hfe : ∀ b, b ∈ feet ρ ⟨T, B', R, M⟩ → b ∈ feet ρ ⟨T, B, R, M⟩ := fun b hb => by
   obtain ⟨p, ty', l, q, hBe, rfl, _⟩ := updB_eq k1
   unfold feet at hb ⊢
   simp only [hBe] at hb ⊢
   simpa using hb
  refine ⟨fun hm => by have := hs.hp.lt b (hfe b hm); omega, ?_, .inr (Nat.le_trans hs.fr.size hge)⟩
  cases ho : ρ.H b with
  | none => rfl
  | some o => have := heap_lt (hs.hp.H b o ho); omega)
 exact k4 ρ' _ w' h4 j3.2.1 (j1.put k3 (resV_rep j2))
variable {Q : Exit → Act → World → Prop} {ops : Array Oper} {rest : List Oper}
def RollK (P : Program) (X : Cx) (ops : Array Oper) (rest : List Oper) (Q : Exit → Act → World → Prop) (d nm nb : Nat) (cs : List AC) (res : List (Bool × List RC)) (T : List (Nat × AV)) (B : List (Nat × Nat × List AC)) (R : RL) (M : List (Nat × (Int → Option Value))) : Prop :=
 ∃ av B' R', updB nb cs B = some B' ∧ imO T B' R nm res = some (av, R') ∧ okD X d = true ∧ EvL P X ops rest Q ⟨(d, av) :: T, B', R', M⟩
theorem rlk {T : List (Nat × AV)} {B B' : List (Nat × Nat × List AC)} {R R' : RL} {M : List (Nat × (Int → Option Value))} {d nm nb : Nat} {cs : List AC} {res : List (Bool × List RC)} {av : AV} (h1 : updB nb cs B = some B') (h2 : imO T B' R nm res = some (av, R')) (h3 : okD X d = true) (h : EvL P X ops rest Q ⟨(d, av) :: T, B', R', M⟩) : RollK P X ops rest Q d nm nb cs res T B R M := ⟨av, B', R', h1, h2, h3, h⟩
theorem evl_roll {α : Type} {qq : α → Prop} {res : α → List (Bool × List RC)} {T : List (Nat × AV)} {B : List (Nat × Nat × List AC)} {R : RL} {M : List (Nat × (Int → Option Value))} {f : FuncId} {x : Operand} {xs : List Operand} {tys : Array TypeId} {args : List (Bool × List C)} {nb n nm d ty : Nat} {v0 : Value} {δ : DS n} {pos : String} {af : Array Edge}
  (hF : chkF P f = true) (hc : Rolls P TD f args qq res) (hx : opv T x = some (.p false [.pb nb 0])) (hB : lk B nb = some (TD, diceA v0 δ)) (hsrc : Src X.H v0 n) (hr : RsA ⟨T, B, R, M⟩ xs args) (hm : ∀ x, noCr (res x) = true)
  (h : ∀ (y : α) (δ' : DS n), qq y → RollK P X ops rest Q d nm nb (diceA v0 δ') (res y) T B R M) : EvL P X ops (⟨some d, .call ⟨.value (.func f), (x :: xs).toArray, tys⟩, ty, pos, af, none⟩ :: rest) Q ⟨T, B, R, M⟩ :=
 fun ρ a w hs => wpList_plain rfl fun K hK => roll_wp hF rfl rfl hc hx hB hsrc hr hm hs fun y δ' hq => let ⟨av, B', R', h1, h2, h3, h4⟩ := h y δ' hq; ⟨av, B', R', h1, h2, h3, fun ρ' v w' _ _ hs' => hK _ _ (h4 ρ' _ w' hs')⟩
def MkRoll (P : Program) (TD : Nat) (f : FuncId) (k : Int) : Prop := ∀ (H : Nat → Option Obj) (w : World) (v0 : Value) (n : Nat), (∀ b o, H b = some o → w.heap[b]? = some o) → Src H v0 n → Calls P f #[v0, .int .u64 k] w fun e w' => ∃ (g : Nat) (δ : DS n), e = .returned (.pointer (some ⟨g, 0, none⟩)) ∧ w.heap.size ≤ g ∧ DiceAt TD g v0 δ w' ∧ Below w.heap.size w w'
theorem evl_mkroll {T : List (Nat × AV)} {B : List (Nat × Nat × List AC)} {R : RL} {f : FuncId} {x y : Operand} {tys : Array TypeId} {d ty : Nat} {k : Int} {pos : String} {af : Array Edge} {l : List Int}
  (hF : chkF P f = true) (hc : MkRoll P TD f k) (hx : opv T x = some (.p false [.c (bytes l)])) (hy : opv T y = some (.p false [.c (.v (.int .u64 k))])) (hl : ∀ x ∈ l, 0 ≤ x ∧ x ≤ 255) (hn : l.length ≤ 4096) (hN : okD X d = true) (hf : freshB d ⟨T, B, R, []⟩ = true)
  (h : ∀ g v0 (δ : DS l.length), X.w0.heap.size ≤ g → Src X.H v0 l.length → EvL P ⟨X.N, X.w0, g :: X.F0, X.H, (d, .pointer (some ⟨g, 0, none⟩)) :: X.K, X.D⟩ ops rest Q ⟨(d, .p false [.pb d 0]) :: T, (d, TD, diceA v0 δ) :: B, R, []⟩) :
  EvL P X ops (⟨some d, .call ⟨.value (.func f), #[x, y], tys⟩, ty, pos, af, none⟩ :: rest) Q ⟨T, B, R, []⟩ := by
 intro ρ a w hs
 refine wpList_plain rfl fun K hK => ?_
 unfold Oper.wp
 rw [run_call hF a.eval #[x, y] tys (some d) ty pos af none rfl, Oper.upon_enter]
 have hxr : RdX ρ.H (bytes l) (a.eval x) := (opv_rep hs hx).1
 have ey : a.eval y = .int .u64 k := rd_v (opv_rep hs hy).1
 have e : #[x, y].map a.eval = #[a.eval x, .int .u64 k] := by simp [ey]
 rw [e]
 have hsrc : Src ρ.H (a.eval x) l.length := ⟨l, rfl, hxr, hl, hn⟩
 refine (hc ρ.H w (a.eval x) l.length hs.hp.H hsrc).mono fun en w' hp => ?_
 obtain ⟨g, δ, rfl, h1, h2, h3⟩ := hp
 have hs1 := hs.next h3
 have hgf : g ∉ feet ρ ⟨T, B, R, []⟩ := fun hm => by have := hs.hp.lt g hm; omega
 have hgH : ρ.H g = none := by
  cases ho : ρ.H g with
  | none => rfl
  | some o => have := heap_lt (hs.hp.H g o ho); omega
 have hge : X.w0.heap.size ≤ g := Nat.le_trans hs.fr.size h1
 have hfb := hf
 simp only [freshB, Bool.and_eq_true] at hfb
 have hbox : ∀ x ∈ B, (ρ.setBox d g).box x.1 = ρ.box x.1 := fun x hx => by
  show (if x.1 = d then g else ρ.box x.1) = _
  rw [if_neg (noK_mem hfb.2.2.1 x hx)]
 have hbd : (ρ.setBox d g).box d = g := by show (if d = d then g else _) = g; rw [if_pos rfl]
 have hfe : feet (ρ.setBox d g) ⟨T, (d, TD, diceA (a.eval x) δ) :: B, R, []⟩ = g :: feet ρ ⟨T, B, R, []⟩ := by
  unfold feet
  simp only [List.map_cons, List.map_nil, List.append_nil, List.cons_append]
  rw [hbd, List.map_congr_left hbox]
  rfl
 have hdN : d < X.N := by have h9 : Nat.ble (d + 1) X.N = true := (okD_lt hN).1; have := Nat.le_of_ble_eq_true h9; omega
 refine hK _ _ (h g (a.eval x) δ hge (by rw [← hs.df.2]; exact hsrc) (ρ.setBox d g) _ w' ⟨⟨hs1.hp.H, fun y hy => ?_, hs1.hp.R, by simp, ?_, fun b hb => ?_⟩, fun t av ht => ?_, hs1.df, ⟨?_, fun y hy => ?_⟩, ?_, fun b hb => ?_⟩)
 ·rcases List.mem_cons.1 hy with rfl | hy
  ·refine ⟨[a.eval x, .int .i64 δ.i, .int .u64 δ.h], by rw [hbd]; exact h2, ⟨⟨0, rfl, hsrc.one⟩, ⟨0, rfl, rfl⟩, ⟨0, rfl, rfl⟩, trivial⟩⟩
  ·obtain ⟨us, h4, h5⟩ := hs1.hp.B y hy
   exact ⟨us, by rw [hbox y hy]; exact h4, h5.monoM fun a b ha hab => hab.setBox (noL_mem (noBs_mem hfb.2.1 y hy) a ha)⟩
 ·have : (feet (ρ.setBox d g) ⟨T, (d, TD, diceA (a.eval x) δ) :: B, R, []⟩).Nodup := by rw [hfe]; exact List.nodup_cons.2 ⟨hgf, hs.hp.nd⟩
  exact this
 ·have hb : b ∈ feet (ρ.setBox d g) ⟨T, (d, TD, diceA (a.eval x) δ) :: B, R, []⟩ := hb
  rw [hfe] at hb
  rcases List.mem_cons.1 hb with rfl | hb
  ·exact hgH
  ·exact hs.hp.dj b hb
 ·have ht' : (if d = t then some (AV.p false [AC.pb d 0]) else lk T t) = some av := ht
  by_cases e : d = t
  ·rw [if_pos e] at ht'
   cases ht'
   subst e
   refine ⟨.pointer (some ⟨g, 0, none⟩), by simp [Act.put, hs.sz.1, hdN], ⟨?_, trivial⟩⟩
   show _ = Value.pointer (some ⟨(ρ.setBox d g).box d, 0, none⟩)
   rw [hbd]
  ·rw [if_neg e] at ht'
   obtain ⟨v, h4, h5⟩ := Sim.tr (m := mentB d) (X := X) (σ := ρ.setBox d g) (fun x u hx hu => hu.setBox hx) hfb.1 hs.T t av ht'
   exact ⟨v, by simp only [Act.put]; rw [Array.getElem?_setIfInBounds_ne e]; exact h4, h5⟩
 ·simpa [Act.put] using hs.sz.1
 ·rcases List.mem_cons.1 hy with rfl | hy
  ·simp [Act.put, hs.sz.1, hdN]
  ·have hne := noS_mem (okD_lt hN).2 y hy
   simp only [Act.put]; rw [Array.getElem?_setIfInBounds_ne (Ne.symm hne)]; exact hs.sz.2 y hy
 ·exact ⟨hs1.fr.os, hs1.fr.tape, hs1.fr.output, hs1.fr.size, fun k hk hn => hs1.fr.block k hk fun h9 => hn (List.mem_cons_of_mem _ h9)⟩
 ·have hb : b ∈ feet (ρ.setBox d g) ⟨T, (d, TD, diceA (a.eval x) δ) :: B, R, []⟩ := hb
  rw [hfe] at hb
  rcases List.mem_cons.1 hb with rfl | hb
  ·exact .inl (by simp)
  ·rcases hs.ft b hb with h9 | h9
   ·exact .inl (List.mem_cons_of_mem _ h9)
   ·exact .inr h9
theorem ret_law {fn : Func} {N g : Nat} {K : List (Nat × Value)} {w0 : World} {H : Nat → Option Obj} {ps : List (Bool × List AC)} {res res' : List (Bool × List RC)} (hg : w0.heap.size ≤ g) (hT : TTOk P TT) (h1 : retPs TT S fn.results.toList = some ps) (h2 : toRCs S.R ps = some res') (he : res' = res) :
  EvE ⟨N, w0, [g], H, K, []⟩ .ret (bodyPost P fn (PurePost H res w0)) S := by
 intro ρ a w hs
 subst he
 obtain ⟨us, h3, h4⟩ := results_ok hT hs h1
 have hnd : (S.R.flatMap fun x => ρ.foot x.1).Nodup := by
  have := hs.hp.nd
  unfold feet at this
  exact (List.nodup_append.1 (List.nodup_append.1 this).2.1).1
 obtain ⟨F, h5, h6, h7⟩ := toRCs_ok hs.hp.R (fun x hx => hx) h2 h3 hnd
 rw [hs.df.2] at h5
 refine ⟨hs.df.1, _, h4, us, F, rfl, h5, h6, fun b hb => ?_, ⟨hs.fr.os, hs.fr.tape, hs.fr.output, hs.fr.size, fun k hk => hs.fr.block k hk ?_⟩⟩
 ·rcases hs.ft b (List.mem_append_right _ (List.mem_append_left _ (h7 b hb))) with h9 | h9
  ·have h9 : b ∈ [g] := h9
   rw [List.mem_singleton.1 h9]; exact hg
  ·exact h9
 ·show k ∉ [g]
  simp only [List.mem_singleton]
  omega
end
def detC : AC → Bool
 | .c (.v _) => true
 | .c .nil => true
 | .rt _ => true
 | .sub _ _ _ _ => true
 | .pb _ _ => true
 | .pr _ _ _ _ => true
 | _ => false
def detL : List AC → Bool
 | [] => true
 | x :: r => match detC x with
  | true => detL r
  | false => false
def detV : AV → Bool
 | .p _ l => detL l
 | _ => false
theorem detC_eq {ρ : Rho} {x : AC} {u v : Value} (hd : detC x = true) (h1 : RepC ρ x u) (h2 : RepC ρ x v) : u = v := by
 unfold detC at hd
 split at hd
 ·rw [rd_v h1, rd_v h2]
 ·rw [rd_nil h1, rd_nil h2]
 ·exact h1.1.trans h2.1.symm
 ·have e := h1.1.symm.trans h2.1
  exact Option.some.inj e
 ·exact Eq.trans h1 (Eq.symm h2)
 ·obtain ⟨g, h3, rfl⟩ := h1
  obtain ⟨g', h4, rfl⟩ := h2
  rw [h3] at h4
  cases h4
  rfl
 ·cases hd
theorem detL_eq {ρ : Rho} : ∀ {l : List AC} {us vs : List Value}, detL l = true → L2 (RepC ρ) l us → L2 (RepC ρ) l vs → us = vs
 | [], [], [], _, _, _ => rfl
 | x :: l, u :: us, v :: vs, hd, h1, h2 => by
  unfold detL at hd
  split at hd
  ·rename_i hx
   rw [detC_eq hx h1.1 h2.1, detL_eq hd h1.2 h2.2]
  ·cases hd
 | [], _ :: _, _, _, h, _ => h.elim
 | [], [], _ :: _, _, _, h => h.elim
 | _ :: _, [], _, _, h, _ => h.elim
 | _ :: _, _ :: _, [], _, _, h => h.elim
theorem detV_eq {ρ : Rho} {av : AV} {u v : Value} (hd : detV av = true) (h1 : RepV ρ av u) (h2 : RepV ρ av v) : u = v := by
 cases av with
 | p g l =>
  obtain ⟨us, k1, rfl, _⟩ := rep_cells h1
  obtain ⟨vs, k2, rfl, _⟩ := rep_cells h2
  rw [detL_eq hd k1 k2]
 | _ => cases hd
section
variable {P : Program} {X : Cx} {S S' S1 : St} {ρ : Rho} {a : Act} {w : World} {TT : List (Nat × TI)} {TD : Nat}
theorem Sim.apart {w' : World} {F : List Nat} (h : Sim X ρ S a w) (hc : Chg w w' F) (h1 : ∀ b ∈ feet ρ S, b ∉ F) (h2 : ∀ b ∈ F, ρ.H b = none) (h3 : ∀ b ∈ F, b ∈ X.F0 ∨ X.w0.heap.size ≤ b) : Sim X ρ S a w' := by
 have hk : ∀ b ∈ feet ρ S, w'.heap[b]? = w.heap[b]? := fun b hb => hc.block b (h.hp.lt b hb) (h1 b hb)
 refine ⟨⟨fun b o hb => ?_, fun x hx => ?_, fun x hx => ?_, fun x hx => ?_, h.hp.nd, h.hp.dj⟩, h.T, h.df, h.sz, h.fr.step hc h3, h.ft⟩
 ·have := h.hp.H b o hb
  rw [hc.block b (heap_lt this) fun hm => by rw [h2 b hm] at hb; cases hb]; exact this
 ·obtain ⟨vs, k1, k2⟩ := h.hp.B x hx
  exact ⟨vs, by rw [hk _ (List.mem_append_left _ (List.mem_map.2 ⟨x, hx, rfl⟩))]; exact k1, k2⟩
 ·exact (h.hp.R x hx).keep fun b hb => hk b (List.mem_append_right _ (List.mem_append_left _ (List.mem_flatMap.2 ⟨x, hx, hb⟩)))
 ·obtain ⟨es, c, k1, k2⟩ := h.hp.M x hx
  exact ⟨es, c, by rw [hk _ (List.mem_append_right _ (List.mem_append_right _ (List.mem_map.2 ⟨x, hx, rfl⟩)))]; exact k1, k2⟩
theorem remB_mem {ds : List Nat} : ∀ {B B' : List (Nat × Nat × List AC)}, remB ds B = some B' → ∀ x ∈ B', ds.elem x.1 = false
  | [], B', h, x, hx => by cases h; simp at hx
  | (b, y) :: r, B', h, x, hx => by
    unfold remB at h
    split at h
    · exact remB_mem h x hx
    · rename_i hb
      split at h
      · rename_i r' hr
        cases h
        rcases List.mem_cons.1 hx with rfl | hx
        · exact hb
        · exact remB_mem hr x hx
      · cases h
theorem quiet_but {op : Op} {av : AV} {nb g t : Nat} {z : Nat × List AC} {T : List (Nat × AV)} {B B0 : List (Nat × Nat × List AC)} {R : RL} {M : List (Nat × (Int → Option Value))} (hk : lk X.K t = some (.pointer (some ⟨g, 0, none⟩))) (ht : lk T t = some (.p false [.pb nb 0])) (hB : lk B nb = some z) (hB0 : remB [nb] B = some B0) (hq : Quiet P X ⟨T, B0, R, M⟩ op av) (hd : detV av = true) (hs : Sim X ρ ⟨T, B, R, M⟩ a w) :
  ∃ v, RepV ρ av v ∧ ∀ (d : Option Tmp) (ty : TypeId) (pos : String) (af : Array Edge) (gd : Option (Nat × Bool)) (w' : World), Chg w w' [g] → (execOp a.eval ⟨d, op, ty, pos, af, gd⟩).run P w' = .ok (.value v) w' := by
 have hg : ρ.box nb = g := pin_box hs hk ht
 have hsub := remB_sub hB0
 have hf : (feet ρ ⟨T, B0, R, M⟩).Sublist (feet ρ ⟨T, B, R, M⟩) := by
  unfold feet
  exact (hsub.map _).append (List.Sublist.refl _)
 have hs0 : Sim X ρ ⟨T, B0, R, M⟩ a w := ⟨⟨hs.hp.H, fun x hx => hs.hp.B x (hsub.subset hx), hs.hp.R, hs.hp.M, hf.nodup hs.hp.nd, fun b hb => hs.hp.dj b (hf.subset hb)⟩, hs.T, hs.df, hs.sz, hs.fr, fun b hb => hs.ft b (hf.subset hb)⟩
 have hout : g ∉ feet ρ ⟨T, B0, R, M⟩ := by
  intro hm
  have hnd := hs.hp.nd
  unfold feet at hm hnd
  obtain ⟨n1, n2, n3⟩ := List.nodup_append.1 hnd
  rcases List.mem_append.1 hm with hm | hm
  ·obtain ⟨x, hx, e⟩ := List.mem_map.1 hm
   have hne : x.1 ≠ nb := fun e2 => by
    have := remB_mem hB0 x hx
    rw [e2] at this
    simp [List.elem] at this
   have e : ρ.box x.1 = g := e
   rw [← hg] at e
   have := map_inj n1 _ (hsub.subset hx) _ (lk_mem hB) e
   exact hne (congrArg Prod.fst this)
  ·exact n3 (ρ.box nb) (List.mem_map.2 ⟨_, lk_mem hB, rfl⟩) g hm hg
 obtain ⟨v, h1, h2⟩ := hq ρ a w hs0
 refine ⟨v, h1, fun d ty pos af gd w' hc => ?_⟩
 have hmem : g ∈ feet ρ ⟨T, B, R, M⟩ := by rw [← hg]; exact box_feet hB
 have hs1 : Sim X ρ ⟨T, B0, R, M⟩ a w' := hs0.apart hc (fun b hb hm => by rw [List.mem_singleton.1 hm] at hb; exact hout hb) (fun b hb => by rw [List.mem_singleton.1 hb]; exact hs.hp.dj g hmem) (fun b hb => by rw [List.mem_singleton.1 hb]; exact hs.ft g hmem)
 obtain ⟨v', h3, h4⟩ := hq ρ a w' hs1
 rw [detV_eq hd h1 h3]
 exact h4 d ty pos af gd w' (Below.refl _ _)
def RDd (P : Program) (X : Cx) (ops : Array Oper) (ks : List Nat) (g : Nat) (fuel : Nat) (listed : Array Bool) (S : St) (Q : Act → World → Prop) : Prop :=
 ∀ ρ a w, Sim X ρ S a w → wpAnyK P .any ops (QK Q) ks (fun W => Chg w W [g]) fuel listed a w
def RDdo (P : Program) (X : Cx) (ops : Array Oper) (ks : List Nat) (g : Nat) (fuel : Nat) (listed : Array Bool) (i : Nat) (S : St) (Q : Act → World → Prop) : Prop :=
 ∀ ρ a w, Sim X ρ S a w → wpOp P ops (QK Q) i (fun a' w' => (unbroken ks (listed.setIfInBounds i true) = true → Chg w w' [g]) ∧ wpAnyK P .any ops (QK Q) ks (fun W => Chg w W [g]) fuel (listed.setIfInBounds i true) a' w') a w
variable {Q : Act → World → Prop} {ops : Array Oper} {ks : List Nat} {T : List (Nat × AV)} {B B0 : List (Nat × Nat × List AC)} {R : RL} {M : List (Nat × (Int → Option Value))} {fuel gg : Nat} {listed : Array Bool} {d : Tmp} {op : Op} {ty : TypeId} {pos : String} {af : Array Edge} {g : Option (Nat × Bool)} {av : AV}
theorem wpAnyK_broken {md : Region.Mode} {Q : Exit → Act → World → Prop} {S S2 : World → Prop} : ∀ (fuel : Nat) (listed : Array Bool) (a : Act) (w : World), unbroken ks listed = false → wpAnyK P md ops Q ks S fuel listed a w → wpAnyK P md ops Q ks S2 fuel listed a w
 | 0, _, _, _, _, h => h
 | fuel + 1, listed, _, _, hu, h => ⟨h.1, fun i hi => wpOp_mono (fun a' w' h' => ⟨fun h9 => absurd h9 (by rw [broken_more i hu]; simp), wpAnyK_broken fuel _ a' w' (broken_more i hu) h'.2⟩) (h.2 i hi)⟩
theorem chg_tr {a b c : World} {g : Nat} (h : Chg a b [g]) (k : Chg b c [g]) : Chg a c [g] := h.step k fun x hx => .inl hx
theorem ev_drawd {id : Nat} {l : List Oper} {Q : Exit → Act → World → Prop} (ks : List Nat) (g : Nat) (hm : P.follows .mixedOrders = true) (h : RDd P X l.toArray ks g l.toArray.size (Array.replicate l.toArray.size false) S (Q .normal)) : Ev P X (.region id l.toArray true) Q S :=
 fun ρ a w hs => wp_mono (Q := QK (Q .normal)) (wp_region_any hm (wpAny_of_K _ _ _ _ (h ρ a w.drew hs.drew))) fun e a' w' hq => by
  cases e with
  | normal => exact hq
  | _ => exact hq.elim
theorem rdd_take {z : Nat × List AC} (t nb : Nat) (i : Nat) (hi : ops[i]? = some ⟨some d, op, ty, pos, af, g⟩) (hc : chkT ops ks listed i = true) (hg : GOk ops T g) (hk : lk X.K t = some (.pointer (some ⟨gg, 0, none⟩))) (ht : lk T t = some (.p false [.pb nb 0])) (hB : lk B nb = some z) (hB0 : remB [nb] B = some B0) (hq : Quiet P X ⟨T, B0, R, M⟩ op av) (hd : detV av = true) (hN : okD X d = true)
  (h : RDd P X ops ks gg fuel (listed.setIfInBounds i true) ⟨(d, av) :: T, B, R, M⟩ Q) : RDd P X ops ks gg (fuel + 1) listed ⟨T, B, R, M⟩ Q := by
 intro ρ a w hs
 simp only [chkT, Bool.and_eq_true] at hc
 obtain ⟨v, h1, h2⟩ := quiet_but hk ht hB hB0 hq hd hs
 exact wpAnyK_first hi (Region.noSelect_spec hc.1) (fun _ _ _ h => h) (fun k hk => List.all_eq_true.1 hc.2.2.2.1 k hk) fuel listed a w (Region.free_spec hi hc.2.1) (closed_of _ hc.2.2.2.2.1) hc.2.2.2.2.2 (by simpa using hc.2.2.1)
  (.inl ⟨GOk.wanted hs hg, fun w' hw => h2 _ _ _ _ _ w' hw⟩) (Chg.refl _ _) (h ρ _ w (hs.put hN h1))
theorem rdd_pure (i : Nat) (hi : ops[i]? = some ⟨some d, op, ty, pos, af, g⟩) (hc : chkP ops ks listed i = true) (hg : GOk ops T g) (hq : QuietW P X ⟨T, B, R, M⟩ op av) (hN : okD X d = true)
  (h : RDd P X ops ks gg fuel (listed.setIfInBounds i true) ⟨(d, av) :: T, B, R, M⟩ Q) : RDd P X ops ks gg (fuel + 1) listed ⟨T, B, R, M⟩ Q := by
 intro ρ a w hs
 simp only [chkP, Bool.and_eq_true, Bool.not_eq_true'] at hc
 obtain ⟨v, h1, h2⟩ := hq ρ a w hs
 exact wpAnyK_firstP hi (Region.noSelect_spec hc.1) (fun _ _ _ h => h) (by simpa using hc.2.2.2) fuel listed a w (Region.free_spec hi hc.2.1) (by simpa using hc.2.2.1)
  (.inl ⟨GOk.wanted hs hg, fun w' hw => h2 _ _ _ _ _ w'⟩) (fun _ => Chg.refl _ _) (h ρ _ w (hs.put hN h1))
theorem rdd_1 (i : Nat) (hr : Region.ready .any ops listed = [i]) (h : RDdo P X ops ks gg fuel listed i S Q) : RDd P X ops ks gg (fuel + 1) listed S Q :=
 fun ρ a w hs => ⟨fun h0 => absurd h0 (by rw [hr]; simp), fun j hj => by
  rw [hr] at hj
  obtain rfl := List.mem_singleton.1 hj
  exact h ρ a w hs⟩
theorem rdd_2 (i j : Nat) (hr : Region.ready .any ops listed = [i, j]) (h1 : RDdo P X ops ks gg fuel listed i S Q) (h2 : RDdo P X ops ks gg fuel listed j S Q) : RDd P X ops ks gg (fuel + 1) listed S Q :=
 fun ρ a w hs => ⟨fun h0 => absurd h0 (by rw [hr]; simp), fun q hq => by
  rw [hr] at hq
  rcases List.mem_cons.1 hq with rfl | hq
  ·exact h1 ρ a w hs
  ·obtain rfl := List.mem_singleton.1 hq
   exact h2 ρ a w hs⟩
theorem rdd_3 (i j k : Nat) (hr : Region.ready .any ops listed = [i, j, k]) (h1 : RDdo P X ops ks gg fuel listed i S Q) (h2 : RDdo P X ops ks gg fuel listed j S Q) (h3 : RDdo P X ops ks gg fuel listed k S Q) : RDd P X ops ks gg (fuel + 1) listed S Q :=
 fun ρ a w hs => ⟨fun h0 => absurd h0 (by rw [hr]; simp), fun q hq => by
  rw [hr] at hq
  rcases List.mem_cons.1 hq with rfl | hq
  ·exact h1 ρ a w hs
  ·rcases List.mem_cons.1 hq with rfl | hq
   ·exact h2 ρ a w hs
   ·obtain rfl := List.mem_singleton.1 hq
    exact h3 ρ a w hs⟩
theorem rdd_endq {Q : Exit → Act → World → Prop} (hr : Region.ready .any ops listed = []) (h : EvE X .normal Q S) : RDd P X ops ks gg fuel listed S (Q .normal) := by
 intro ρ a w hs
 cases fuel with
 | zero => exact ⟨hr, h ρ a w hs⟩
 | succ n => exact ⟨fun _ => h ρ a w hs, by rw [hr]; simp⟩
def RollD (P : Program) (X : Cx) (ops : Array Oper) (ks : List Nat) (gg fuel : Nat) (listed : Array Bool) (Q : Act → World → Prop) (d nm nb : Nat) (cs : List AC) (res : List (Bool × List RC)) (T : List (Nat × AV)) (B : List (Nat × Nat × List AC)) (R : RL) (M : List (Nat × (Int → Option Value))) : Prop :=
 ∃ av B' R', updB nb cs B = some B' ∧ imO T B' R nm res = some (av, R') ∧ okD X d = true ∧ RDd P X ops ks gg fuel listed ⟨(d, av) :: T, B', R', M⟩ Q
theorem rdk {B' : List (Nat × Nat × List AC)} {R' : RL} {nm nb : Nat} {cs : List AC} {res : List (Bool × List RC)} (h1 : updB nb cs B = some B') (h2 : imO T B' R nm res = some (av, R')) (h3 : okD X d = true) (h : RDd P X ops ks gg fuel listed ⟨(d, av) :: T, B', R', M⟩ Q) : RollD P X ops ks gg fuel listed Q d nm nb cs res T B R M := ⟨av, B', R', h1, h2, h3, h⟩
theorem rddo_roll {α : Type} {qq : α → Prop} {res : α → List (Bool × List RC)} {i : Nat} {f : FuncId} {x : Operand} {xs : List Operand} {tys : Array TypeId} {args : List (Bool × List C)} {nb n nm : Nat} {v0 : Value} {δ : DS n} (t : Nat) (hi : ops[i]? = some ⟨some d, .call ⟨.value (.func f), (x :: xs).toArray, tys⟩, ty, pos, af, g⟩) (hg : GOk ops T g) (hk : lk X.K t = some (.pointer (some ⟨gg, 0, none⟩))) (ht : lk T t = some (.p false [.pb nb 0]))
  (hF : chkF P f = true) (hc : Rolls P TD f args qq res) (hx : opv T x = some (.p false [.pb nb 0])) (hB : lk B nb = some (TD, diceA v0 δ)) (hsrc : Src X.H v0 n) (hr : RsA ⟨T, B, R, M⟩ xs args) (hm : ∀ x, noCr (res x) = true)
  (h : ∀ (y : α) (δ' : DS n), qq y → RollD P X ops ks gg fuel (listed.setIfInBounds i true) Q d nm nb (diceA v0 δ') (res y) T B R M) : RDdo P X ops ks gg fuel listed i ⟨T, B, R, M⟩ Q := by
 intro ρ a w hs
 refine wpOp_step hi fun K' hK => ?_
 rw [if_pos (GOk.wanted (o := ⟨some d, .call ⟨.value (.func f), (x :: xs).toArray, tys⟩, ty, pos, af, g⟩) hs hg)]
 have hp : ρ.box nb = gg := pin_box hs hk ht
 refine roll_wp (nm := nm) (o := ⟨some d, .call ⟨.value (.func f), (x :: xs).toArray, tys⟩, ty, pos, af, g⟩) hF rfl rfl hc hx hB hsrc hr hm hs fun y δ' hq => ?_
 obtain ⟨av, B', R', h1, h2, h3, h4⟩ := h y δ' hq
 refine ⟨av, B', R', h1, h2, h3, fun ρ' v w' hch _ hs' => ?_⟩
 rw [hp] at hch
 exact hK _ _ ⟨fun _ => hch, wpAnyK_mono (fun W hW => chg_tr hch hW) _ _ _ _ (h4 ρ' _ w' hs')⟩
theorem rddo_call {i : Nat} {f : FuncId} {xs : List Operand} {tys : Array TypeId} {args : List (Bool × List C)} {res : List (Bool × List RC)} {nm : Nat} {R' : RL} (hi : ops[i]? = some ⟨some d, .call ⟨.value (.func f), xs.toArray, tys⟩, ty, pos, af, g⟩) (hg : GOk ops T g)
  (hF : chkF P f = true) (hc : Pure P f args res) (hr : RsA ⟨T, B, R, M⟩ xs args) (hm : modeB T xs res = true) (him : imO T B R nm res = some (av, R')) (hN : okD X d = true) (h : RDd P X ops ks gg fuel (listed.setIfInBounds i true) ⟨(d, av) :: T, B, R', M⟩ Q) : RDdo P X ops ks gg fuel listed i ⟨T, B, R, M⟩ Q := by
 intro ρ a w hs
 refine wpOp_step hi fun K' hK => ?_
 rw [if_pos (GOk.wanted (o := ⟨some d, .call ⟨.value (.func f), xs.toArray, tys⟩, ty, pos, af, g⟩) hs hg)]
 refine call_wp hF rfl rfl rfl hc hr hm (imO_eq him) hN hs fun ρ' v w' hb hs' => hK _ _ ⟨fun _ => Chg.of_below hb, ?_⟩
 exact wpAnyK_mono (fun W hW => chg_tr (Chg.of_below hb) hW) _ _ _ _ (h ρ' _ w' hs')
theorem rddo_new {i : Nat} {dd : Option Tmp} (hi : ops[i]? = some ⟨dd, op, ty, pos, af, g⟩) (hg : GOk ops S.T g) (he : Eff P X S dd op S1 true) (h : RDd P X ops ks gg fuel (listed.setIfInBounds i true) S1 Q) : RDdo P X ops ks gg fuel listed i S Q := by
 intro ρ a w hs
 refine wpOp_step hi fun K' hK => ?_
 rw [if_pos (GOk.wanted (o := ⟨dd, op, ty, pos, af, g⟩) hs hg)]
 refine eff_wp (P := P) (o := ⟨dd, op, ty, pos, af, g⟩) he rfl hs fun ρ' v w' hs' hb => hK _ _ ⟨fun _ => Chg.of_below (hb rfl), ?_⟩
 exact wpAnyK_mono (fun W hW => chg_tr (Chg.of_below (hb rfl)) hW) _ _ _ _ (h ρ' _ w' hs')
theorem rddo_brk {i : Nat} {dd : Option Tmp} {fr : Bool} (hi : ops[i]? = some ⟨dd, op, ty, pos, af, g⟩) (hu : unbroken ks (listed.setIfInBounds i true) = false) (hg : GOk ops S.T g) (he : Eff P X S dd op S1 fr) (h : RDd P X ops ks gg fuel (listed.setIfInBounds i true) S1 Q) : RDdo P X ops ks gg fuel listed i S Q := by
 intro ρ a w hs
 refine wpOp_step hi fun K' hK => ?_
 rw [if_pos (GOk.wanted (o := ⟨dd, op, ty, pos, af, g⟩) hs hg)]
 exact eff_wp (P := P) (o := ⟨dd, op, ty, pos, af, g⟩) he rfl hs fun ρ' v w' hs' _ => hK _ _ ⟨fun h9 => absurd h9 (by rw [hu]; simp), wpAnyK_broken _ _ _ _ hu (h ρ' _ w' hs')⟩
end
end Go.Proofs.YtahkjonokeifmaaGreat
