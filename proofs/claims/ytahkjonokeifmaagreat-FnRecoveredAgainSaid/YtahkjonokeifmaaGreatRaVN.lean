/- Structs compared whose fields are numbers or structs of numbers; calls through function values. No program in it. -/
import Derived.Test.YtahkjonokeifmaaGreatRaVA
import Derived.Deep.RegionHeld3
import Derived.Test.YtahkjonokeifmaaGreatRaVF
namespace Go.Proofs.YtahkjonokeifmaaGreat
open Go.ChangeShapes Go.WideShapes Go.ChangeAt Go.RowKit
set_option linter.unusedVariables false
section
variable {P : Program} {ops : Array Oper} {Q : Exit → Act → World → Prop} {S : World → Prop} {md : Region.Mode} {ks : List Nat}
def unbroken (ks : List Nat) (listed : Array Bool) : Bool := ks.all fun k => !listed.getD k true
def before (md : Region.Mode) (ops : Array Oper) : Nat → Nat → Nat → Bool
 | 0, _, _ => false
 | n + 1, k, i => match ops[k]? with
  | none => false
  | some o => o.after.any fun e => Region.binds md e && (e.on == i || before md ops n e.on i)
def closedB (md : Region.Mode) (ops : Array Oper) (listed : Array Bool) : Bool :=
  (List.range ops.size).all fun j => !listed.getD j true || match ops[j]? with
    | none => true
    | some o => o.after.all fun e => !Region.binds md e || listed.getD e.on true
def Closed (md : Region.Mode) (ops : Array Oper) (listed : Array Bool) : Prop :=
 ∀ j o, ops[j]? = some o → listed.getD j true = true → ∀ e ∈ o.after, Region.binds md e = true → listed.getD e.on true = true
theorem closed_of (listed : Array Bool) (h : closedB md ops listed = true) : Closed md ops listed := by
 intro j o hj hl e he hb
 have hlt : j < ops.size := (Array.getElem?_eq_some_iff.1 hj).1
 have h1 := List.all_eq_true.1 h j (List.mem_range.2 hlt)
 rw [hl, hj] at h1
 simp only [Bool.not_true, Bool.false_or, Array.all_eq_true_iff_forall_mem] at h1
 have h2 := h1 e he
 rw [hb] at h2
 simpa using h2
theorem listed_before {listed : Array Bool} (hc : Closed md ops listed) {i : Nat} : ∀ (n k : Nat), before md ops n k i = true →
  (∀ o, ops[k]? = some o → ∀ e ∈ o.after, Region.binds md e = true → listed.getD e.on true = true) → listed.getD i true = true
 | 0, _, h, _ => by simp [before] at h
 | n + 1, k, h, hk => by
  unfold before at h
  split at h
  ·cases h
  ·rename_i o ho
   obtain ⟨e, he, h2⟩ := Array.any_eq_true'.1 h
   simp only [Bool.and_eq_true, Bool.or_eq_true, beq_iff_eq] at h2
   obtain ⟨hb, h3⟩ := h2
   have h4 := hk o ho e he hb
   rcases h3 with rfl | h3
   ·exact h4
   ·exact listed_before hc n e.on h3 fun o' ho' => hc e.on o' ho' h4
theorem unbroken_at {listed : Array Bool} (h : unbroken ks listed = true) {k : Nat} (hk : k ∈ ks) : listed.getD k true = false := by
 have := List.all_eq_true.1 h k hk
 simpa using this
theorem unbroken_of {listed : Array Bool} (h : ∀ k ∈ ks, listed.getD k true = false) : unbroken ks listed = true :=
 List.all_eq_true.2 fun k hk => by rw [h k hk]; rfl
def wpAnyK (P : Program) (md : Region.Mode) (ops : Array Oper) (Q : Exit → Act → World → Prop) (ks : List Nat) (S : World → Prop) : Nat → Array Bool → Act → World → Prop
 | 0, listed, a, w => Region.ready md ops listed = [] ∧ Q .normal a w
 | fuel + 1, listed, a, w =>
  (Region.ready md ops listed = [] → Q .normal a w) ∧
  ∀ i ∈ Region.ready md ops listed, wpOp P ops Q i (fun a' w' => (unbroken ks (listed.setIfInBounds i true) = true → S w') ∧ wpAnyK P md ops Q ks S fuel (listed.setIfInBounds i true) a' w') a w
theorem wpAny_of_K : ∀ (fuel : Nat) (listed : Array Bool) (a : Act) (w : World), wpAnyK P md ops Q ks S fuel listed a w → wpAny P md ops Q fuel listed a w
 | 0, _, _, _, h => h
 | fuel + 1, _, _, _, h => ⟨h.1, fun i hi => wpOp_mono (fun a' w' h' => wpAny_of_K fuel _ a' w' h'.2) (h.2 i hi)⟩
theorem getD_set_true {listed : Array Bool} {i j : Nat} (h : listed.getD i true = true) : (listed.setIfInBounds j true).getD i true = true := by
 by_cases hij : j = i
 ·subst hij
  by_cases hlt : j < listed.size
  ·simp [hlt]
  ·simp [hlt]
 ·rw [getD_set_ne true hij]; exact h
theorem broken_more {listed : Array Bool} (i : Nat) (h : unbroken ks listed = false) : unbroken ks (listed.setIfInBounds i true) = false := by
 unfold unbroken at *
 rw [List.all_eq_false] at *
 obtain ⟨k, hk, h2⟩ := h
 refine ⟨k, hk, ?_⟩
 have h3 : listed.getD k true = true := by simpa using h2
 rw [getD_set_true h3]; simp
theorem K_of_held : ∀ (fuel : Nat) (listed : Array Bool) (a : Act) (w : World), unbroken ks listed = false → wpAnyH P md ops Q (fun _ => True) fuel listed a w → wpAnyK P md ops Q ks S fuel listed a w
 | 0, _, _, _, _, h => h
 | fuel + 1, listed, _, _, hu, h => ⟨h.1, fun i hi => wpOp_mono (fun a' w' h' => ⟨fun h9 => absurd h9 (by rw [broken_more i hu]; simp), K_of_held fuel _ a' w' (broken_more i hu) h'.2⟩) (h.2 i hi)⟩
theorem wpAnyK_first {i : Nat} {oi : Oper} {v : Value} (hi : ops[i]? = some oi) (hsel : ∀ (j : Nat) (o : Oper) cs b, ops[j]? = some o → o.op ≠ .select cs b)
  (hQ : ∀ c a w, Q (.panic c) (a.put oi.dst v) w → Q (.panic c) a w) (hbef : ∀ k ∈ ks, before md ops ops.size k i = true) :
  ∀ (fuel : Nat) (listed : Array Bool) (a : Act) (w : World),
   (∀ j oj, ops[j]? = some oj → j ≠ i → listed.getD j true = false → (∀ e ∈ oj.after, Region.binds md e = true → e.on ≠ i) → oi.apart ops oj = true) → Closed md ops listed → unbroken ks listed = true →
   i ∈ Region.ready md ops listed → YieldsIf P ops S oi v a → S w →
   wpAnyK P md ops Q ks S fuel (listed.setIfInBounds i true) (a.put oi.dst v) w → wpAnyK P md ops Q ks S (fuel + 1) listed a w := by
 intro fuel
 induction fuel with
 | zero =>
  intro listed a w _ _ hu hr hy hS H
  refine ⟨fun h => (by rw [h] at hr; cases hr), fun j hj => ?_⟩
  by_cases hji : j = i
  ·subst hji; exact hy.wpOp hi hS ⟨fun _ => hS, H⟩
  ·have := ready_mono hj hji
   rw [H.1] at this
   cases this
 | succ fuel ih =>
  intro listed a w hfree hcl hu hr hy hS H
  refine ⟨fun h => (by rw [h] at hr; cases hr), fun j hj => ?_⟩
  by_cases hji : j = i
  ·subst hji; exact hy.wpOp hi hS ⟨fun _ => hS, H⟩
  ·have h1 := H.2 j (ready_mono hj hji)
   obtain ⟨hiun, oi', hoi', halli⟩ := mem_ready.1 hr
   have hiun' : listed.getD i true = false := hiun
   obtain ⟨hjun, oj, hoj, hall⟩ := mem_ready.1 hj
   have hik : i ∉ ks := fun hk => by
    have := listed_before hcl _ _ (hbef i hk) (fun o ho e he hb => by
     rw [hoi'] at ho; cases ho
     have := halli e he hb
     rcases Nat.lt_or_ge e.on listed.size with h' | h'
     ·simp [h'] at this ⊢; exact this
     ·simp [Array.getElem?_eq_none h'])
    rw [hiun'] at this; cases this
   have hjk : j ∉ ks := fun hk => by
    have := listed_before hcl _ _ (hbef j hk) (fun o ho e he hb => by
     rw [hoj] at ho; cases ho
     have := hall e he hb
     rcases Nat.lt_or_ge e.on listed.size with h' | h'
     ·simp [h'] at this ⊢; exact this
     ·simp [Array.getElem?_eq_none h'])
    rw [hiun'] at this; cases this
   have hnot : ∀ e ∈ oj.after, Region.binds md e = true → e.on ≠ i := fun e he hb heq => by
    have h1 := hall e he hb
    have h0 := (mem_ready.1 hr).1
    rw [heq] at h1
    rcases Nat.lt_or_ge i listed.size with h' | h'
    ·simp [h'] at h0 h1; rw [h0] at h1; cases h1
    ·simp [Array.getElem?_eq_none h'] at h1
   have h2 := wpOp_putIf hoj (hfree j oj hoj hji hjun hnot) (fun cs b => hsel i oi cs b hi) (fun cs b => hsel j oj cs b hoj) hQ hy h1
   have hfree' : ∀ k ok, ops[k]? = some ok → k ≠ i → (listed.setIfInBounds j true).getD k true = false →
     (∀ e ∈ ok.after, Region.binds md e = true → e.on ≠ i) → oi.apart ops ok = true := fun k ok hk hki hun hno => by
    refine hfree k ok hk hki ?_ hno
    by_cases hjk : j = k
    ·subst hjk; exact hjun
    ·rw [getD_set_ne true hjk] at hun; exact hun
   have hcl' : Closed md ops (listed.setIfInBounds j true) := fun k o hk hl e he hb => by
    by_cases hjk : j = k
    ·subst hjk
     rw [hoj] at hk; cases hk
     have := hall e he hb
     refine getD_set_true ?_
     rcases Nat.lt_or_ge e.on listed.size with h' | h'
     ·simp [h'] at this ⊢; exact this
     ·simp [Array.getElem?_eq_none h']
    ·rw [getD_set_ne true hjk] at hl
     exact getD_set_true (hcl k o hk hl e he hb)
   have hu' : unbroken ks (listed.setIfInBounds j true) = true := unbroken_of fun k hk => by
    rw [getD_set_ne true (fun e : j = k => hjk (by rw [e]; exact hk))]
    exact unbroken_at hu hk
   have hu2 : unbroken ks ((listed.setIfInBounds i true).setIfInBounds j true) = true := unbroken_of fun k hk => by
    rw [getD_set_ne true (fun e : j = k => hjk (by rw [e]; exact hk)), getD_set_ne true (fun e : i = k => hik (by rw [e]; exact hk))]
    exact unbroken_at hu hk
   refine wpOp_mono (fun a' w' h3 => ⟨fun _ => h3.2.1 hu2, ih (listed.setIfInBounds j true) a' w' hfree' hcl' hu' (ready_mono hr (Ne.symm hji)) h3.1 (h3.2.1 hu2) ?_⟩) h2
   rw [Array.setIfInBounds_comm _ _ hji]
   exact h3.2.2
theorem wpAnyK_firstP {i : Nat} {oi : Oper} {v : Value} (hi : ops[i]? = some oi) (hsel : ∀ (j : Nat) (o : Oper) cs b, ops[j]? = some o → o.op ≠ .select cs b)
  (hQ : ∀ c a w, Q (.panic c) (a.put oi.dst v) w → Q (.panic c) a w) (hik : i ∉ ks) :
  ∀ (fuel : Nat) (listed : Array Bool) (a : Act) (w : World),
   (∀ j oj, ops[j]? = some oj → j ≠ i → listed.getD j true = false → (∀ e ∈ oj.after, Region.binds md e = true → e.on ≠ i) → oi.apart ops oj = true) →
   i ∈ Region.ready md ops listed → YieldsIf P ops (fun _ => True) oi v a → (unbroken ks listed = true → S w) →
   wpAnyK P md ops Q ks S fuel (listed.setIfInBounds i true) (a.put oi.dst v) w → wpAnyK P md ops Q ks S (fuel + 1) listed a w := by
 have hset : ∀ L : Array Bool, unbroken ks (L.setIfInBounds i true) = true → unbroken ks L = true := fun L h => unbroken_of fun k hk => by
  have := unbroken_at h hk
  rwa [getD_set_ne true (fun e : i = k => hik (by rw [e]; exact hk))] at this
 have hset2 : ∀ L : Array Bool, unbroken ks L = true → unbroken ks (L.setIfInBounds i true) = true := fun L h => unbroken_of fun k hk => by
  rw [getD_set_ne true (fun e : i = k => hik (by rw [e]; exact hk))]
  exact unbroken_at h hk
 intro fuel
 induction fuel with
 | zero =>
  intro listed a w _ hr hy hS H
  refine ⟨fun h => (by rw [h] at hr; cases hr), fun j hj => ?_⟩
  by_cases hji : j = i
  ·subst hji; exact hy.wpOp hi trivial ⟨fun h => hS (hset _ h), H⟩
  ·have := ready_mono hj hji
   rw [H.1] at this
   cases this
 | succ fuel ih =>
  intro listed a w hfree hr hy hS H
  refine ⟨fun h => (by rw [h] at hr; cases hr), fun j hj => ?_⟩
  by_cases hji : j = i
  ·subst hji; exact hy.wpOp hi trivial ⟨fun h => hS (hset _ h), H⟩
  ·have h1 := H.2 j (ready_mono hj hji)
   obtain ⟨hjun, oj, hoj, hall⟩ := mem_ready.1 hj
   have hnot : ∀ e ∈ oj.after, Region.binds md e = true → e.on ≠ i := fun e he hb heq => by
    have h1 := hall e he hb
    have h0 := (mem_ready.1 hr).1
    rw [heq] at h1
    rcases Nat.lt_or_ge i listed.size with h' | h'
    ·simp [h'] at h0 h1; rw [h0] at h1; cases h1
    ·simp [Array.getElem?_eq_none h'] at h1
   have h2 := wpOp_putIf hoj (hfree j oj hoj hji hjun hnot) (fun cs b => hsel i oi cs b hi) (fun cs b => hsel j oj cs b hoj) hQ hy h1
   have hfree' : ∀ k ok, ops[k]? = some ok → k ≠ i → (listed.setIfInBounds j true).getD k true = false →
     (∀ e ∈ ok.after, Region.binds md e = true → e.on ≠ i) → oi.apart ops ok = true := fun k ok hk hki hun hno => by
    refine hfree k ok hk hki ?_ hno
    by_cases hjk : j = k
    ·subst hjk; exact hjun
    ·rw [getD_set_ne true hjk] at hun; exact hun
   have hcomm : (listed.setIfInBounds i true).setIfInBounds j true = (listed.setIfInBounds j true).setIfInBounds i true := Array.setIfInBounds_comm _ _ (Ne.symm hji)
   refine wpOp_mono (fun a' w' h3 => ?_) h2
   have hs' : unbroken ks (listed.setIfInBounds j true) = true → S w' := fun hu => h3.2.1 (by rw [hcomm]; exact hset2 _ hu)
   refine ⟨hs', ih (listed.setIfInBounds j true) a' w' hfree' (ready_mono hr (Ne.symm hji)) h3.1 hs' ?_⟩
   rw [← hcomm]
   exact h3.2.2
theorem wpAnyK_mono {S2 : World → Prop} (hm : ∀ W, S W → S2 W) : ∀ (fuel : Nat) (listed : Array Bool) (a : Act) (w : World), wpAnyK P md ops Q ks S fuel listed a w → wpAnyK P md ops Q ks S2 fuel listed a w
 | 0, _, _, _, h => h
 | fuel + 1, _, _, _, h => ⟨h.1, fun i hi => wpOp_mono (fun a' w' h' => ⟨fun hu => hm _ (h'.1 hu), wpAnyK_mono hm fuel _ a' w' h'.2⟩) (h.2 i hi)⟩
end
def QS (X : Cx) (S' : St) : Act → World → Prop := fun a w => ∃ ρ, Sim X ρ S' a w
def QK (Q : Act → World → Prop) : Exit → Act → World → Prop
 | .normal, a, w => Q a w
 | _, _, _ => False
def RDk (P : Program) (X : Cx) (ops : Array Oper) (ks : List Nat) (fuel : Nat) (listed : Array Bool) (S : St) (Q : Act → World → Prop) : Prop :=
 ∀ ρ a w, Sim X ρ S a w → wpAnyK P .any ops (QK Q) ks (fun W => Below w.heap.size w W) fuel listed a w
def RDb (P : Program) (X : Cx) (ops : Array Oper) (fuel : Nat) (listed : Array Bool) (S : St) (Q : Act → World → Prop) : Prop :=
 ∀ ρ a w, Sim X ρ S a w → wpAnyH P .any ops (QK Q) (fun _ => True) fuel listed a w
def RDo (P : Program) (X : Cx) (ops : Array Oper) (ks : List Nat) (fuel : Nat) (listed : Array Bool) (i : Nat) (S : St) (Q : Act → World → Prop) : Prop :=
 ∀ ρ a w, Sim X ρ S a w → wpOp P ops (QK Q) i (fun a' w' => (unbroken ks (listed.setIfInBounds i true) = true → Below w.heap.size w w') ∧ wpAnyK P .any ops (QK Q) ks (fun W => Below w.heap.size w W) fuel (listed.setIfInBounds i true) a' w') a w
def GOk (ops : Array Oper) (T : List (Nat × AV)) : Option (Nat × Bool) → Prop
 | none => True
 | some (j, want) => ∃ t b, gTmp ops j = some t ∧ lk T t = some (.p false [.c (.v (.bool b))]) ∧ b = want
def GNo (ops : Array Oper) (T : List (Nat × AV)) : Option (Nat × Bool) → Prop
 | none => False
 | some (j, want) => ∃ t, gTmp ops j = some t ∧ ((∃ b, lk T t = some (.p false [.c (.v (.bool b))]) ∧ b = !want) ∨ lk T t = some .und)
section
variable {P : Program} {X : Cx} {S S' S1 : St} {Q : Act → World → Prop} {ops : Array Oper} {ks : List Nat} {T : List (Nat × AV)} {B : List (Nat × Nat × List AC)} {R : List (Nat × Nat × Nat × List (List C))} {M : List (Nat × (Int → Option Value))} {fuel : Nat} {listed : Array Bool} {d : Tmp} {op : Op} {ty : TypeId} {pos : String} {af : Array Edge} {g : Option (Nat × Bool)} {av : AV}
theorem GOk.wanted {ρ : Rho} {a : Act} {w : World} {o : Oper} (hs : Sim X ρ S a w) (h : GOk ops S.T o.guard) : Region.wanted o (yielded ops a.tmps) = true := by
 cases hg : o.guard with
 | none => simp [Region.wanted, hg]
 | some p =>
  obtain ⟨j, want⟩ := p
  rw [hg] at h
  obtain ⟨t, b, h1, h2, rfl⟩ := h
  rw [wanted_of hs hg h1 h2]; simp
theorem GNo.wanted {ρ : Rho} {a : Act} {w : World} {o : Oper} (hs : Sim X ρ S a w) (h : GNo ops S.T o.guard) : Region.wanted o (yielded ops a.tmps) = false := by
 cases hg : o.guard with
 | none => rw [hg] at h; exact h.elim
 | some p =>
  obtain ⟨j, want⟩ := p
  rw [hg] at h
  obtain ⟨t, h1, h2⟩ := h
  rcases h2 with ⟨b, h2, rfl⟩ | h2
  ·rw [wanted_of hs hg h1 h2]; cases want <;> rfl
  ·exact wanted_und hs hg h1 h2
theorem ev_draw {id : Nat} {l : List Oper} (ks : List Nat) (hm : P.follows .mixedOrders = true) (h : RDk P X l.toArray ks l.toArray.size (Array.replicate l.toArray.size false) S (QS X S')) {Q : Exit → Act → World → Prop} (k : EvE X .normal Q S') : Ev P X (.region id l.toArray true) Q S := by
 intro ρ a w hs
 refine wp_mono (Q := QK (QS X S')) (wp_region_any hm (wpAny_of_K _ _ _ _ (h ρ a w.drew hs.drew))) fun e a' w' hq => ?_
 cases e with
 | normal => obtain ⟨ρ', h'⟩ := hq; exact k ρ' a' w' h'
 | _ => exact hq.elim
theorem ev_drawq {id : Nat} {l : List Oper} {Q : Exit → Act → World → Prop} (ks : List Nat) (hm : P.follows .mixedOrders = true) (h : RDk P X l.toArray ks l.toArray.size (Array.replicate l.toArray.size false) S (Q .normal)) : Ev P X (.region id l.toArray true) Q S :=
 fun ρ a w hs => wp_mono (Q := QK (Q .normal)) (wp_region_any hm (wpAny_of_K _ _ _ _ (h ρ a w.drew hs.drew))) fun e a' w' hq => by
  cases e with
  | normal => exact hq
  | _ => exact hq.elim
theorem rdk_part {t : Tmp} {b : Bool} (hv : lk S.T t = some (.p false [.c (.v (.bool b))])) (ht : b = true → RDk P X ops ks fuel listed S Q) (hf : b = false → RDk P X ops ks fuel listed S Q) : RDk P X ops ks fuel listed S Q := by
 cases b
 ·exact hf rfl
 ·exact ht rfl
theorem rdk_partn {t : Tmp} {b : Bool} (hv : lk S.T t = some (.p false [.c (.v (.bool !b))])) (ht : b = false → RDk P X ops ks fuel listed S Q) (hf : b = true → RDk P X ops ks fuel listed S Q) : RDk P X ops ks fuel listed S Q := by
 cases b
 ·exact ht rfl
 ·exact hf rfl
def chkT (ops : Array Oper) (ks : List Nat) (listed : Array Bool) (i : Nat) : Bool :=
 Region.noSelect ops && (Region.free .any ops listed i && ((Region.ready .any ops listed).contains i && ((ks.all fun k => before .any ops ops.size k i) && (closedB .any ops listed && unbroken ks listed))))
theorem rdk_take (i : Nat) (hi : ops[i]? = some ⟨some d, op, ty, pos, af, g⟩) (hc : chkT ops ks listed i = true) (hg : GOk ops T g) (hq : Quiet P X ⟨T, B, R, M⟩ op av) (hN : okD X d = true)
  (h : RDk P X ops ks fuel (listed.setIfInBounds i true) ⟨(d, av) :: T, B, R, M⟩ Q) : RDk P X ops ks (fuel + 1) listed ⟨T, B, R, M⟩ Q := by
 intro ρ a w hs
 simp only [chkT, Bool.and_eq_true] at hc
 obtain ⟨v, h1, h2⟩ := hq ρ a w hs
 exact wpAnyK_first hi (Region.noSelect_spec hc.1) (fun _ _ _ h => h) (fun k hk => List.all_eq_true.1 hc.2.2.2.1 k hk) fuel listed a w (Region.free_spec hi hc.2.1) (closed_of _ hc.2.2.2.2.1) hc.2.2.2.2.2 (by simpa using hc.2.2.1)
  (.inl ⟨GOk.wanted hs hg, fun w' hw => h2 _ _ _ _ _ w' hw⟩) (Below.refl _ _) (h ρ _ w (hs.put hN h1))
theorem rdk_skip (i : Nat) (hi : ops[i]? = some ⟨some d, op, ty, pos, af, g⟩) (hc : chkT ops ks listed i = true) (hg : GNo ops T g) (hN : okD X d = true)
  (h : RDk P X ops ks fuel (listed.setIfInBounds i true) ⟨(d, .und) :: T, B, R, M⟩ Q) : RDk P X ops ks (fuel + 1) listed ⟨T, B, R, M⟩ Q := by
 intro ρ a w hs
 simp only [chkT, Bool.and_eq_true] at hc
 exact wpAnyK_first hi (Region.noSelect_spec hc.1) (fun _ _ _ h => h) (fun k hk => List.all_eq_true.1 hc.2.2.2.1 k hk) fuel listed a w (Region.free_spec hi hc.2.1) (closed_of _ hc.2.2.2.2.1) hc.2.2.2.2.2 (by simpa using hc.2.2.1)
  (.inr ⟨GNo.wanted hs hg, rfl⟩) (Below.refl _ _) (h ρ _ w (hs.put hN rfl))
theorem rdk_one (i : Nat) (hr : Region.ready .any ops listed = [i]) (h : RDo P X ops ks fuel listed i S Q) : RDk P X ops ks (fuel + 1) listed S Q :=
 fun ρ a w hs => ⟨fun h0 => absurd h0 (by rw [hr]; simp), fun j hj => by
  rw [hr] at hj
  obtain rfl := List.mem_singleton.1 hj
  exact h ρ a w hs⟩
theorem rdk_two (i j : Nat) (hr : Region.ready .any ops listed = [i, j]) (h1 : RDo P X ops ks fuel listed i S Q) (h2 : RDo P X ops ks fuel listed j S Q) : RDk P X ops ks (fuel + 1) listed S Q :=
 fun ρ a w hs => ⟨fun h0 => absurd h0 (by rw [hr]; simp), fun q hq => by
  rw [hr] at hq
  rcases List.mem_cons.1 hq with rfl | hq
  ·exact h1 ρ a w hs
  ·obtain rfl := List.mem_singleton.1 hq
   exact h2 ρ a w hs⟩
theorem rdo_call {i : Nat} {f : FuncId} {xs : List Operand} {tys : Array TypeId} {args : List (Bool × List C)} {res : List (Bool × List RC)} {nm : Nat} {R' : List (Nat × Nat × Nat × List (List C))} (hi : ops[i]? = some ⟨some d, .call ⟨.value (.func f), xs.toArray, tys⟩, ty, pos, af, g⟩) (hg : GOk ops T g)
  (hF : chkF P f = true) (hc : Pure P f args res) (hr : RsA ⟨T, B, R, M⟩ xs args) (hm : modeB T xs res = true) (him : imO T B R nm res = some (av, R')) (hN : okD X d = true) (h : RDk P X ops ks fuel (listed.setIfInBounds i true) ⟨(d, av) :: T, B, R', M⟩ Q) : RDo P X ops ks fuel listed i ⟨T, B, R, M⟩ Q := by
 intro ρ a w hs
 refine wpOp_step hi fun K' hK => ?_
 rw [if_pos (GOk.wanted (o := ⟨some d, .call ⟨.value (.func f), xs.toArray, tys⟩, ty, pos, af, g⟩) hs hg)]
 refine call_wp hF rfl rfl rfl hc hr hm (imO_eq him) hN hs fun ρ' v w' hb hs' => hK _ _ ⟨fun _ => hb, ?_⟩
 exact wpAnyK_mono (fun W hW => hb.trans (hW.mono hb.size)) _ _ _ _ (h ρ' _ w' hs')
theorem eff_wp {dd : Option Tmp} {o : Oper} {fr : Bool} {ρ : Rho} {a : Act} {w : World} {K : Act → World → Prop} {Q : Exit → Act → World → Prop} (he : Eff P X S dd o.op S1 fr) (hd : o.dst = dd) (hs : Sim X ρ S a w)
  (h : ∀ ρ' v w', Sim X ρ' S1 (a.put dd v) w' → (fr = true → Below w.heap.size w w') → K (a.put dd v) w') : Oper.wp P o a w K Q := by
 obtain ⟨od, oop, oty, opos, oaf, og⟩ := o
 simp only at he hd
 subst hd
 obtain ⟨ρ', nx, v, w', h1, h2, h3, h4⟩ := he ρ a w hs
 unfold Oper.wp
 rw [h1]
 rcases h2 with rfl | ⟨rfl, rfl⟩
 ·exact h ρ' _ w' h3 h4
 ·exact h ρ' _ w' h3 h4
theorem rdo_new {i : Nat} {dd : Option Tmp} (hi : ops[i]? = some ⟨dd, op, ty, pos, af, g⟩) (hg : GOk ops S.T g) (he : Eff P X S dd op S1 true) (h : RDk P X ops ks fuel (listed.setIfInBounds i true) S1 Q) : RDo P X ops ks fuel listed i S Q := by
 intro ρ a w hs
 refine wpOp_step hi fun K' hK => ?_
 rw [if_pos (GOk.wanted (o := ⟨dd, op, ty, pos, af, g⟩) hs hg)]
 refine eff_wp (P := P) (o := ⟨dd, op, ty, pos, af, g⟩) he rfl hs fun ρ' v w' hs' hb => hK _ _ ⟨fun _ => hb rfl, ?_⟩
 exact wpAnyK_mono (fun W hW => (hb rfl).trans (hW.mono (hb rfl).size)) _ _ _ _ (h ρ' _ w' hs')
theorem rdo_brk {i : Nat} {dd : Option Tmp} {fr : Bool} (hi : ops[i]? = some ⟨dd, op, ty, pos, af, g⟩) (hu : unbroken ks (listed.setIfInBounds i true) = false) (hg : GOk ops S.T g) (he : Eff P X S dd op S1 fr) (h : RDb P X ops fuel (listed.setIfInBounds i true) S1 Q) : RDo P X ops ks fuel listed i S Q := by
 intro ρ a w hs
 refine wpOp_step hi fun K' hK => ?_
 rw [if_pos (GOk.wanted (o := ⟨dd, op, ty, pos, af, g⟩) hs hg)]
 refine eff_wp (P := P) (o := ⟨dd, op, ty, pos, af, g⟩) he rfl hs fun ρ' v w' hs' _ => hK _ _ ⟨fun h9 => absurd h9 (by rw [hu]; simp), K_of_held _ _ _ _ hu (h ρ' _ w' hs')⟩
theorem rdk_end (hr : Region.ready .any ops listed = []) (h : ∀ ρ a w, Sim X ρ S a w → Q a w) : RDk P X ops ks fuel listed S Q := by
 intro ρ a w hs
 cases fuel with
 | zero => exact ⟨hr, h ρ a w hs⟩
 | succ n => exact ⟨fun _ => h ρ a w hs, by rw [hr]; simp⟩
theorem rdb_end (hr : Region.ready .any ops listed = []) (h : ∀ ρ a w, Sim X ρ S a w → Q a w) : RDb P X ops fuel listed S Q := fun ρ a w hs => wpAnyH_done hr (h ρ a w hs) _
theorem rdk_endq {Q : Exit → Act → World → Prop} (hr : Region.ready .any ops listed = []) (h : EvE X .normal Q S) : RDk P X ops ks fuel listed S (Q .normal) := rdk_end hr h
theorem rdb_endq {Q : Exit → Act → World → Prop} (hr : Region.ready .any ops listed = []) (h : EvE X .normal Q S) : RDb P X ops fuel listed S (Q .normal) := rdb_end hr h
theorem rdb_fin (hr : Region.ready .any ops listed = []) : RDb P X ops fuel listed S (QS X S) := fun ρ a w hs => wpAnyH_done hr ⟨ρ, hs⟩ _
theorem rdb_le (σ : List (Nat × Nat)) (hr : Region.ready .any ops listed = []) (hl : Le σ S S') : RDb P X ops fuel listed S (QS X S') := fun ρ a w hs => wpAnyH_done hr ⟨_, hs.le hl⟩ _
theorem rdb_one (i : Nat) {o : Oper} (hi : ops[i]? = some o) (hr : Region.ready .any ops listed = [i]) (hg : GOk ops S.T o.guard)
  (h : ∀ ρ a w, Sim X ρ S a w → ∀ K : Act → World → Prop, (∀ a' w', wpAnyH P .any ops (QK Q) (fun _ => True) fuel (listed.setIfInBounds i true) a' w' → K a' w') → Oper.wp P o a w K (QK Q)) : RDb P X ops (fuel + 1) listed S Q := by
 intro ρ a w hs
 exact wpAnyH_ready hr (by simp) (AllReadyH.cons hi (fun K hK => by rw [if_pos (GOk.wanted hs hg)]; exact h ρ a w hs K (fun a w hr => hK a w trivial fun _ => hr)) AllReadyH.nil)
theorem rdb_eff (i : Nat) {dd : Option Tmp} {fr : Bool} (hi : ops[i]? = some ⟨dd, op, ty, pos, af, g⟩) (hr : Region.ready .any ops listed = [i]) (hg : GOk ops S.T g) (he : Eff P X S dd op S1 fr) (h : RDb P X ops fuel (listed.setIfInBounds i true) S1 Q) : RDb P X ops (fuel + 1) listed S Q :=
 rdb_one i hi hr hg fun ρ a w hs K hK => eff_wp (P := P) (o := ⟨dd, op, ty, pos, af, g⟩) he rfl hs fun ρ' v w' hs' _ => hK _ _ (h ρ' _ w' hs')
theorem rdb_q (i : Nat) (hi : ops[i]? = some ⟨some d, op, ty, pos, af, g⟩) (hr : Region.ready .any ops listed = [i]) (hg : GOk ops T g) (hq : Quiet P X ⟨T, B, R, M⟩ op av) (hN : okD X d = true) (h : RDb P X ops fuel (listed.setIfInBounds i true) ⟨(d, av) :: T, B, R, M⟩ Q) : RDb P X ops (fuel + 1) listed ⟨T, B, R, M⟩ Q :=
 rdb_one i hi hr hg fun ρ a w hs K hK => by
  obtain ⟨v, h1, h2⟩ := hq ρ a w hs
  unfold Oper.wp
  rw [h2 _ _ _ _ _ w (Below.refl _ _)]
  exact hK _ _ (h ρ _ w (hs.put hN h1))
def chkP (ops : Array Oper) (ks : List Nat) (listed : Array Bool) (i : Nat) : Bool :=
 Region.noSelect ops && (Region.free .any ops listed i && ((Region.ready .any ops listed).contains i && !ks.contains i))
theorem rdk_pure (i : Nat) (hi : ops[i]? = some ⟨some d, op, ty, pos, af, g⟩) (hc : chkP ops ks listed i = true) (hg : GOk ops T g) (hq : QuietW P X ⟨T, B, R, M⟩ op av) (hN : okD X d = true)
  (h : RDk P X ops ks fuel (listed.setIfInBounds i true) ⟨(d, av) :: T, B, R, M⟩ Q) : RDk P X ops ks (fuel + 1) listed ⟨T, B, R, M⟩ Q := by
 intro ρ a w hs
 simp only [chkP, Bool.and_eq_true, Bool.not_eq_true'] at hc
 obtain ⟨v, h1, h2⟩ := hq ρ a w hs
 exact wpAnyK_firstP hi (Region.noSelect_spec hc.1) (fun _ _ _ h => h) (by simpa using hc.2.2.2) fuel listed a w (Region.free_spec hi hc.2.1) (by simpa using hc.2.2.1)
  (.inl ⟨GOk.wanted hs hg, fun w' hw => h2 _ _ _ _ _ w'⟩) (fun _ => Below.refl _ _) (h ρ _ w (hs.put hN h1))
end
section
variable {P : Program} {X : Cx} {Q : Act → World → Prop} {ops : Array Oper} {ks : List Nat} {T : List (Nat × AV)} {B : List (Nat × Nat × List AC)} {R : List (Nat × Nat × Nat × List (List C))} {M : List (Nat × (Int → Option Value))} {fuel : Nat} {listed : Array Bool} {d : Tmp} {op : Op} {ty : TypeId} {pos : String} {af : Array Edge} {av : AV}
theorem rk0 (i : Nat) (hi : ops[i]? = some ⟨some d, op, ty, pos, af, none⟩) (hq : Quiet P X ⟨T, B, R, M⟩ op av) (hN : okD X d = true) (h : RDk P X ops ks fuel (listed.setIfInBounds i true) ⟨(d, av) :: T, B, R, M⟩ Q) (hc : chkT ops ks listed i = true := by kernel_rfl) : RDk P X ops ks (fuel + 1) listed ⟨T, B, R, M⟩ Q := rdk_take i hi hc trivial hq hN h
theorem rkt (i : Nat) {j : Nat} {b x : Bool} {t : Tmp} (hi : ops[i]? = some ⟨some d, op, ty, pos, af, some (j, b)⟩) (h1 : gTmp ops j = some t) (h2 : lk T t = some (.p false [.c (.v (.bool x))])) (h3 : x = b) (hq : Quiet P X ⟨T, B, R, M⟩ op av) (hN : okD X d = true) (h : RDk P X ops ks fuel (listed.setIfInBounds i true) ⟨(d, av) :: T, B, R, M⟩ Q) (hc : chkT ops ks listed i = true := by kernel_rfl) : RDk P X ops ks (fuel + 1) listed ⟨T, B, R, M⟩ Q := rdk_take i hi hc ⟨t, x, h1, h2, h3⟩ hq hN h
theorem rks (i : Nat) {j : Nat} {b x : Bool} {t : Tmp} (hi : ops[i]? = some ⟨some d, op, ty, pos, af, some (j, b)⟩) (h1 : gTmp ops j = some t) (h2 : lk T t = some (.p false [.c (.v (.bool x))])) (h3 : x = !b) (hN : okD X d = true) (h : RDk P X ops ks fuel (listed.setIfInBounds i true) ⟨(d, .und) :: T, B, R, M⟩ Q) (hc : chkT ops ks listed i = true := by kernel_rfl) : RDk P X ops ks (fuel + 1) listed ⟨T, B, R, M⟩ Q := rdk_skip i hi hc ⟨t, h1, .inl ⟨x, h2, h3⟩⟩ hN h
end
def pickO {α : Type} : List Nat → List α → Option (List α)
 | [], _ => some []
 | i :: r, l => match nthO i l with
  | some x => match pickO r l with
   | some y => some (x :: y)
   | none => none
  | none => none
section
variable {P : Program} {X : Cx} {S : St} {ρ : Rho} {a : Act} {w : World} {TT : List (Nat × TI)}
def Hands (P : Program) (f : FuncId) (n : Nat) (pk : List Nat) : Prop := ∀ us : List Value, us.length = n → Pure P f [(true, us.map C.v)] [(true, pk.map fun i => RC.v (us.getD i undef))]
theorem pick_rep : ∀ {pk : List Nat} {l l' : List AC} {us : List Value}, pickO pk l = some l' → L2 (RepC ρ) l us → L2 (RepC ρ) l' (pk.map fun i => us.getD i undef)
 | [], l, l', us, h, hu => by cases h; trivial
 | i :: pk, l, l', us, h, hu => by
  unfold pickO at h
  split at h
  ·rename_i x hx
   split at h
   ·rename_i y hy
    cases h
    obtain ⟨u, h1, h2⟩ := hu.get (nthO_eq hx)
    refine ⟨?_, pick_rep hy hu⟩
    show RepC ρ x (us.getD i undef)
    rw [List.getD_eq_getElem?_getD, h1]; exact h2
   ·cases h
  ·cases h
theorem vs_rd {H : Nat → Option Obj} : ∀ {us : List Value}, (∀ u ∈ us, u.oneCell' = true) → L2 (RdX H) (us.map C.v) us
 | [], _ => trivial
 | u :: us, h => ⟨⟨0, rfl, h u (by simp)⟩, vs_rd fun v hv => h v (by simp [hv])⟩
theorem ow_vs {H : Nat → Option Obj} : ∀ {xs us : List Value} {F : List Nat}, OwRs H w (xs.map RC.v) us F → us = xs ∧ F = []
 | [], [], F, h => ⟨rfl, h⟩
 | x :: xs, u :: us, F, h => by
  obtain ⟨F1, F2, h1, h2, rfl⟩ := h
  obtain ⟨rfl, rfl⟩ := ow_vs h2
  obtain ⟨⟨rfl, _⟩, rfl⟩ := h1
  exact ⟨rfl, rfl⟩
 | [], _ :: _, _, h => h.elim
 | _ :: _, [], _, h => h.elim
theorem callv_wp {o : Oper} {f : FuncId} {x : Operand} {tys : Array TypeId} {n d : Nat} {pk : List Nat} {l l' : List AC} {K : Act → World → Prop} {Q : Exit → Act → World → Prop}
  (hF : chkF P f = true) (ho : o.op = .call ⟨.value (.func f), #[x], tys⟩) (hd : o.dst = some d) (hc : Hands P f n pk) (hx : opv S.T x = some (.p true l)) (hl : lenB l n = true) (hp : pickO pk l = some l') (hN : okD X d = true) (hs : Sim X ρ S a w)
  (h : ∀ v w', Below w.heap.size w w' → Sim X ρ ⟨(d, .p true l') :: S.T, S.B, S.R, S.M⟩ (a.put (some d) v) w' → K (a.put (some d) v) w') : Oper.wp P o a w K Q := by
 obtain ⟨od, oop, oty, opos, oaf, og⟩ := o
 simp only at ho hd
 subst ho; subst hd
 unfold Oper.wp
 rw [run_call hF a.eval #[x] tys (some d) oty opos oaf og rfl]
 obtain ⟨us, hu, h1⟩ := opv_rep hs hx
 have hul : us.length = n := by rw [h1.len, lenB_eq hl]
 have := hc us hul (fun _ => none) w [a.eval x] (by intro b o h; cases h) ⟨by show Pc _ (true, us.map C.v) (a.eval x); exact ⟨us, hu, vs_rd h1.ones⟩, trivial⟩
 rw [Oper.upon_enter]
 have e : #[x].map a.eval = [a.eval x].toArray := by simp
 rw [e]
 refine this.mono fun en w' hpost => ?_
 obtain ⟨us', F, rfl, k1, k2, k3, k4⟩ := hpost
 have key : ∃ vs : List Value, us' = [mkV true vs] ∧ vs = pk.map fun i => us.getD i undef := by
  match us', k1 with
  | [u], ⟨F1, F2, ⟨vs, e1, _, e3⟩, _, _⟩ =>
   have hm : (pk.map fun i => RC.v (us.getD i undef)) = (pk.map fun i => us.getD i undef).map RC.v := by rw [List.map_map]; rfl
   simp only at e1 e3
   rw [hm] at e3
   exact ⟨vs, by rw [e1], (ow_vs e3).1⟩
 obtain ⟨vs, rfl, rfl⟩ := key
 exact h _ w' k4 ((hs.next k4).put hN ⟨_, rfl, pick_rep hp h1⟩)
variable {Q : Exit → Act → World → Prop} {ops : Array Oper} {rest : List Oper}
theorem evl_callv {T : List (Nat × AV)} {B : List (Nat × Nat × List AC)} {R : RL} {M : List (Nat × (Int → Option Value))} {f : FuncId} {x : Operand} {tys : Array TypeId} {n d ty : Nat} {pk : List Nat} {l l' : List AC} {pos : String} {af : Array Edge}
  (hF : chkF P f = true) (hc : Hands P f n pk) (hx : opv T x = some (.p true l)) (hl : lenB l n = true) (hp : pickO pk l = some l') (hN : okD X d = true) (h : EvL P X ops rest Q ⟨(d, .p true l') :: T, B, R, M⟩) :
  EvL P X ops (⟨some d, .call ⟨.value (.func f), #[x], tys⟩, ty, pos, af, none⟩ :: rest) Q ⟨T, B, R, M⟩ :=
 fun ρ a w hs => wpList_plain rfl fun K hK => callv_wp hF rfl rfl hc hx hl hp hN hs fun v w' _ hs' => hK _ _ (h ρ _ w' hs')
end
def mapB (P : Program) (t kt et : Nat) : Bool :=
 match P.underlying t, P.underlying kt with
 | some (.map k e), some (.int _) => decide (k = kt) && decide (e = et)
 | _, _ => false
theorem mapB_ok {P : Program} {t kt et : Nat} (h : mapB P t kt et = true) : P.underlying t = some (.map kt et) ∧ ∃ kd, P.underlying kt = some (.int kd) := by
 unfold mapB at h
 split at h
 ·rename_i k e kd h1 h2
  simp only [Bool.and_eq_true, decide_eq_true_eq] at h
  obtain ⟨rfl, rfl⟩ := h
  exact ⟨h1, kd, h2⟩
 ·cases h
section
variable {P : Program} {X : Cx} {S : St} {ρ : Rho} {a : Act} {w : World} {TT : List (Nat × TI)}
theorem e_mkmap {T : List (Nat × AV)} {B : List (Nat × Nat × List AC)} {R : RL} {M : List (Nat × (Int → Option Value))} {t kt et d : Nat} (hm : mapB P t kt et = true) (hN : okD X d = true) (hf : freshB d ⟨T, B, R, M⟩ = true) :
  Eff P X ⟨T, B, R, M⟩ (some d) (.makeMap t none) ⟨(d, .p false [.mp d]) :: T, B, R, (d, fun _ => none) :: M⟩ true := by
 intro ρ a w hs
 obtain ⟨hu, kd, hk⟩ := mapB_ok hm
 have hf' := hf
 simp only [freshB, Bool.and_eq_true] at hf'
 obtain ⟨f1, f2, f3, f4⟩ := hf'
 have hb : Below w.heap.size w (w.alloc (.map #[] 0)) := (Below.refl _ _).alloc (Nat.le_refl _) _
 have hold : ∀ b, b < w.heap.size → (w.alloc (.map #[] 0)).heap[b]? = w.heap[b]? := fun b hb => Below.heap_alloc w _ b hb
 have e1 : B.map (fun x => (ρ.setBox d w.heap.size).box x.1) = B.map fun x => ρ.box x.1 := List.map_congr_left fun x hx => by
  show (if x.1 = d then w.heap.size else ρ.box x.1) = ρ.box x.1
  rw [if_neg (noK_mem f3 x hx)]
 have e2 : M.map (fun x => (ρ.setBox d w.heap.size).box x.1) = M.map fun x => ρ.box x.1 := List.map_congr_left fun x hx => by
  show (if x.1 = d then w.heap.size else ρ.box x.1) = ρ.box x.1
  rw [if_neg (noK_mem f4 x hx)]
 have hfeet : feet (ρ.setBox d w.heap.size) ⟨T, B, R, (d, fun _ => none) :: M⟩ = B.map (fun x => ρ.box x.1) ++ (fts ρ R ++ w.heap.size :: M.map fun x => ρ.box x.1) := by
  unfold feet
  simp only [List.map_cons, e1, e2]
  show _ ++ (_ ++ (if d = d then w.heap.size else ρ.box d) :: _) = _
  rw [if_pos rfl]
  rfl
 have hmem : ∀ b, b ∈ B.map (fun x => ρ.box x.1) ++ (fts ρ R ++ w.heap.size :: M.map fun x => ρ.box x.1) → b = w.heap.size ∨ b ∈ feet ρ ⟨T, B, R, M⟩ := by
  intro b hb
  unfold feet
  simp only [List.mem_append, List.mem_cons] at hb ⊢
  rcases hb with hb | hb | hb | hb
  ·exact .inr (.inl hb)
  ·exact .inr (.inr (.inl hb))
  ·exact .inl hb
  ·exact .inr (.inr (.inr hb))
 have hlt := hs.hp.lt
 have hsim : Sim X (ρ.setBox d w.heap.size) ⟨T, B, R, (d, fun _ => none) :: M⟩ a (w.alloc (.map #[] 0)) := by
  refine ⟨⟨fun b o hb2 => ?_, fun x hx => ?_, fun x hx => (hs.hp.R x hx).keep fun b hb2 => hold b ((hs.hp.R x hx).lt b hb2), fun x hx => ?_, ?_, fun b hb2 => ?_⟩, Sim.tr (m := mentB d) (X := X) (fun x u hx hu => hu.setBox hx) f1 hs.T, hs.df, hs.sz, hs.fr.step (Chg.of_below (F := []) hb) (by simp), fun b hb2 => ?_⟩
  ·have := hs.hp.H b o hb2
   rw [hold b (heap_lt this)]; exact this
  ·obtain ⟨us, h1, h2⟩ := hs.hp.B x hx
   refine ⟨us, ?_, h2.monoM fun a b ha hab => hab.setBox (noL_mem (noBs_mem f2 x hx) a ha)⟩
   show (w.alloc _).heap[if x.1 = d then w.heap.size else ρ.box x.1]? = _
   rw [if_neg (noK_mem f3 x hx), hold _ (heap_lt h1)]; exact h1
  ·rcases List.mem_cons.1 hx with rfl | hx
   ·show MapI (w.alloc _) (if d = d then w.heap.size else ρ.box d) _
    rw [if_pos rfl]; exact MapI.made w
   ·show MapI (w.alloc _) (if x.1 = d then w.heap.size else ρ.box x.1) _
    rw [if_neg (noK_mem f4 x hx)]
    have h1 : MapI w (ρ.box x.1) x.2 := hs.hp.M x hx
    exact h1.same (hold _ h1.lt)
  ·rw [hfeet]
   have hnd := hs.hp.nd
   unfold feet at hnd
   obtain ⟨n1, n2, n3⟩ := List.nodup_append.1 hnd
   obtain ⟨n4, n5, n6⟩ := List.nodup_append.1 n2
   have hno : ∀ b ∈ feet ρ ⟨T, B, R, M⟩, b ≠ w.heap.size := fun b hb2 e => by have := hlt b hb2; omega
   unfold feet at hno
   refine List.nodup_append.2 ⟨n1, List.nodup_append.2 ⟨n4, List.nodup_cons.2 ⟨fun hm => hno _ (List.mem_append_right _ (List.mem_append_right _ hm)) rfl, n5⟩, fun x hx y hy => ?_⟩, fun x hx y hy => ?_⟩
   ·rcases List.mem_cons.1 hy with rfl | hy
    ·exact hno x (List.mem_append_right _ (List.mem_append_left _ hx))
    ·exact n6 x hx y hy
   ·rcases List.mem_append.1 hy with hy | hy
    ·exact n3 x hx y (List.mem_append_left _ hy)
    ·rcases List.mem_cons.1 hy with rfl | hy
     ·exact hno x (List.mem_append_left _ hx)
     ·exact n3 x hx y (List.mem_append_right _ hy)
  ·rw [hfeet] at hb2
   rcases hmem b hb2 with rfl | hb2
   ·show ρ.H w.heap.size = none
    cases ho : ρ.H w.heap.size with
    | none => rfl
    | some o => exact absurd (heap_lt (hs.hp.H _ o ho)) (Nat.lt_irrefl _)
   ·exact hs.hp.dj b hb2
  ·rw [hfeet] at hb2
   rcases hmem b hb2 with rfl | hb2
   ·exact .inr hs.fr.size
   ·exact hs.ft b hb2
 refine ⟨_, .value (.map (some w.heap.size)), _, w.alloc (.map #[] 0), fun _ _ _ _ => ?_, .inl rfl, hsim.put hN ⟨?_, trivial⟩, fun _ => hb⟩
 ·simp [execOp, Instr.makeMap, newObj]
  rfl
 ·show _ = Value.map (some (if d = d then w.heap.size else ρ.box d))
  rw [if_pos rfl]
theorem q_lookup_b {t kt et b : Nat} {x k : Operand} {kk : Int} {f : Int → Option Value} {i : TI} {r : Bool} (hm : mapB P t kt et = true) (hT : TTOk P TT) (hi : lk TT et = some i) (hz : i.zero = [.v (.bool false)]) (hg : i.sh.agg = false) (hx : opv S.T x = some (.p false [.mp b])) (hb : lk S.M b = some f) (hk : opv S.T k = some (.p false [.c (.v (.int .i64 kk))]))
  (hr : f kk = if r then some (.bool true) else none) : Quiet P X S (.lookup t x k false) (.p false [.c (.v (.bool r))]) := by
 intro ρ a w hs
 obtain ⟨hu, kd, hku⟩ := mapB_ok hm
 have hp : a.eval x = .map (some (ρ.box b)) := (opv_rep hs hx).1
 have hq : a.eval k = .int .i64 kk := rd_v (opv_rep hs hk).1
 have hM : MapI w (ρ.box b) f := hs.hp.M _ (lk_mem hb)
 refine ⟨.bool r, ⟨⟨0, rfl, rfl⟩, trivial⟩, fun d ty pos af g w' hw => ?_⟩
 have hM' := hM.below hw hM.lt
 have hzv : ∀ W : World, (zeroValue et).run P W = .ok (.bool false) W := fun W => by
  have := (hT et i hi).zeroValue (w := W)
  rw [hg, hz] at this
  exact this
 have := hM'.run_lookup (P := P) hu hku (.bool false) hzv kk
 rw [hr] at this
 simp only [execOp, hp, hq, Sem.run_bind, this, Result.andThen_ok, Sem.run_pure]
 cases r <;> rfl
def updM (b : Nat) (f : Int → Option Value) : List (Nat × (Int → Option Value)) → Option (List (Nat × (Int → Option Value)))
  | [] => none
  | (k, g) :: r => match Nat.beq k b with
    | true => some ((k, f) :: r)
    | false => match updM b f r with
      | some r' => some ((k, g) :: r')
      | none => none
theorem updM_eq {b : Nat} {f : Int → Option Value} : ∀ {B B' : List (Nat × (Int → Option Value))}, updM b f B = some B' → ∃ p g q, B = p ++ (b, g) :: q ∧ B' = p ++ (b, f) :: q ∧ lk B b = some g
  | [], _, h => by cases h
  | (k, l) :: r, B', h => by
    unfold updM at h
    split at h
    · rename_i hk
      obtain rfl := Nat.eq_of_beq_eq_true hk
      cases h
      exact ⟨[], l, r, rfl, rfl, by simp [lk]⟩
    · rename_i hk
      split at h
      · rename_i r' hr
        cases h
        obtain ⟨p, l', q, rfl, rfl, h3⟩ := updM_eq hr
        refine ⟨(k, l) :: p, l', q, rfl, rfl, ?_⟩
        simp only [lk, if_neg (beq_f hk)]
        exact h3
      · cases h
theorem Sim.wmap {w' : World} {b : Nat} {f : Int → Option Value} {M' : List (Nat × (Int → Option Value))} (h : Sim X ρ S a w) (hu : updM b f S.M = some M') (hf : MapI w' (ρ.box b) f) (hw : Wrote1 w w' (ρ.box b)) : Sim X ρ ⟨S.T, S.B, S.R, M'⟩ a w' := by
 obtain ⟨p, g, q, hM, rfl, hlk⟩ := updM_eq hu
 have hfe : feet ρ ⟨S.T, S.B, S.R, p ++ (b, f) :: q⟩ = feet ρ S := by unfold feet; rw [hM]; simp
 have hmem : ρ.box b ∈ feet ρ S := by unfold feet; rw [hM]; simp
 have hnd := h.hp.nd
 unfold feet at hnd
 rw [hM] at hnd
 obtain ⟨n1, n2, n3⟩ := List.nodup_append.1 hnd
 obtain ⟨n4, n5, n6⟩ := List.nodup_append.1 n2
 have hne : ∀ x ∈ p ++ q, ρ.box x.1 ≠ ρ.box b := by
  intro x hx e
  simp only [List.map_append, List.map_cons] at n5
  obtain ⟨_, m2, m3⟩ := List.nodup_append.1 n5
  rcases List.mem_append.1 hx with hx | hx
  ·exact m3 _ (List.mem_map.2 ⟨x, hx, rfl⟩) _ (List.mem_cons_self ..) e
  ·exact (List.nodup_cons.1 m2).1 (by rw [← e]; exact List.mem_map.2 ⟨x, hx, rfl⟩)
 have hbm : ρ.box b ∈ (p ++ (b, g) :: q).map fun x => ρ.box x.1 := by simp
 obtain ⟨w1, w2, w3, w4, w5⟩ := hw
 refine ⟨⟨fun k o hk => ?_, fun x hx => ?_, fun x hx => ?_, fun x hx => ?_, by rw [hfe]; exact h.hp.nd, by rw [hfe]; exact h.hp.dj⟩, h.T, h.df, h.sz, ?_, by rw [hfe]; exact h.ft⟩
 ·rw [w5 k (fun e => by have := h.hp.dj _ hmem; rw [← e, hk] at this; cases this)]
  exact h.hp.H k o hk
 ·obtain ⟨vs, h1, h2⟩ := h.hp.B x hx
  exact ⟨vs, by rw [w5 _ (fun e => n3 _ (List.mem_map.2 ⟨x, hx, rfl⟩) _ (List.mem_append_right _ hbm) e)]; exact h1, h2⟩
 ·exact (h.hp.R x hx).keep fun k hk => w5 k fun e => n6 k (List.mem_flatMap.2 ⟨x, hx, hk⟩) _ hbm e
 ·have hx' : x = (b, f) ∨ x ∈ p ++ q := by
   rcases List.mem_append.1 hx with hx | hx
   ·exact .inr (List.mem_append_left _ hx)
   ·rcases List.mem_cons.1 hx with hx | hx
    ·exact .inl hx
    ·exact .inr (List.mem_append_right _ hx)
  rcases hx' with rfl | hx'
  ·exact hf
  ·have h1 : MapI w (ρ.box x.1) x.2 := h.hp.M x (by rw [hM]; rcases List.mem_append.1 hx' with h9 | h9 <;> simp [h9])
   exact h1.same (w5 _ (hne x hx'))
 ·refine h.fr.step (G := [ρ.box b]) ⟨w1, w2, w3, by rw [w4]; exact Nat.le_refl _, fun k _ hk => w5 k (by simpa using hk)⟩ ?_
  intro k hk
  rw [List.mem_singleton.1 hk]
  exact h.ft _ hmem
def valsO : List AC → Option (List Value)
 | [] => some []
 | .c (.v x) :: r => match valsO r with
  | some l => some (x :: l)
  | none => none
 | _ :: _ => none
theorem valsO_rep : ∀ {l : List AC} {xs us : List Value}, valsO l = some xs → L2 (RepC ρ) l us → us = xs
 | [], xs, us, h, hu => by cases h; match us, hu with | [], _ => rfl
 | y :: l, xs, us, h, hu => by
  match us, hu with
  | u :: us, hu =>
   unfold valsO at h
   split at h
   ·cases ‹_ :: _ = []›
   ·rename_i x r e
    cases e
    split at h
    ·rename_i xs' hr
     cases h
     rw [valsO_rep hr hu.2, rd_v hu.1]
    ·cases h
   ·cases h
theorem e_mapset {T : List (Nat × AV)} {B : List (Nat × Nat × List AC)} {R : RL} {M M' : List (Nat × (Int → Option Value))} {t kt et b : Nat} {x k y : Operand} {kk : Int} {f f' : Int → Option Value} {g : Bool} {l : List AC} {vs : List Value} (hm : mapB P t kt et = true) (hx : opv T x = some (.p false [.mp b])) (hb : lk M b = some f) (hk : opv T k = some (.p false [.c (.v (.int .i64 kk))]))
  (hy : opv T y = some (.p g l)) (hv : valsO l = some vs) (hf : ∀ q, f' q = if q = kk then some (mkV g vs) else f q) (hM : updM b f' M = some M') : Eff P X ⟨T, B, R, M⟩ none (.mapUpdate t x k y) ⟨T, B, R, M'⟩ false := by
 intro ρ a w hs
 obtain ⟨hu, kd, hku⟩ := mapB_ok hm
 have hp : a.eval x = .map (some (ρ.box b)) := (opv_rep hs hx).1
 have hq : a.eval k = .int .i64 kk := rd_v (opv_rep hs hk).1
 obtain ⟨us, h1, h2, _⟩ := rep_cells (opv_rep hs hy)
 obtain rfl := valsO_rep hv h1
 have hMI : MapI w (ρ.box b) f := hs.hp.M _ (lk_mem hb)
 obtain ⟨w', h3, h4, h5⟩ := hMI.run_update (P := P) hu hku kk (mkV g us)
 have h4' : MapI w' (ρ.box b) f' := by rw [show f' = fun q => if q = kk then some (mkV g us) else f q from funext hf]; exact h4
 exact ⟨ρ, .skip, undef, w', fun _ _ _ _ => by simp [execOp, hp, hq, h2, h3], .inr ⟨rfl, rfl⟩, hs.wmap hM h4' h5, by intro h; cases h⟩
end
section
variable {P : Program} {X : Cx} {S : St} {ρ : Rho} {a : Act} {w : World} {TT : List (Nat × TI)}
theorem Sim.addback (h : Sim X ρ S a w) {nm ty n : Nat} {l : List (List C)} {xs : List Value} {F : List Nat} (ho : OwS w ty n l (ρ.root nm) xs F) (hn : F.Nodup) (hF : ∀ b ∈ F, b ∉ feet ρ S ∧ ρ.H b = none ∧ (b ∈ X.F0 ∨ X.w0.heap.size ≤ b)) (f1 : noT (mentS nm) S.T = true) (f2 : noBs (mentS nm) S.B = true) (f3 : noK nm S.R = true) :
  Sim X (ρ.setRoot nm (ρ.root nm) xs F) ⟨S.T, S.B, (nm, ty, n, l) :: S.R, S.M⟩ a w := by
 have hfe : feet (ρ.setRoot nm (ρ.root nm) xs F) ⟨S.T, S.B, (nm, ty, n, l) :: S.R, S.M⟩ = S.B.map (fun x => ρ.box x.1) ++ (F ++ fts ρ S.R ++ S.M.map fun x => ρ.box x.1) := by
  have key : ∀ R : RL, (∀ x ∈ R, x.1 ≠ nm) → R.flatMap (fun x => (ρ.setRoot nm (ρ.root nm) xs F).foot x.1) = R.flatMap fun x => ρ.foot x.1 := by
   intro R
   induction R with
   | nil => intro _; rfl
   | cons x R ih =>
    intro h
    rw [List.flatMap_cons, List.flatMap_cons, ih fun y hy => h y (by simp [hy])]
    congr 1
    show (if x.1 = nm then F else ρ.foot x.1) = _
    rw [if_neg (h x (by simp))]
  unfold feet
  simp only [List.flatMap_cons, key S.R fun x hx => noK_mem f3 x hx]
  show _ ++ ((if nm = nm then F else ρ.foot nm) ++ _ ++ _) = _
  rw [if_pos rfl]
  rfl
 have hmem : ∀ b, b ∈ S.B.map (fun x => ρ.box x.1) ++ (F ++ fts ρ S.R ++ S.M.map fun x => ρ.box x.1) → b ∈ F ∨ b ∈ feet ρ S := by
  intro b hb
  unfold feet
  simp only [List.mem_append] at hb ⊢
  rcases hb with hb | (hb | hb) | hb
  ·exact .inr (.inl hb)
  ·exact .inl hb
  ·exact .inr (.inr (.inl hb))
  ·exact .inr (.inr (.inr hb))
 refine ⟨⟨h.hp.H, fun x hx => ?_, fun x hx => ?_, fun x hx => h.hp.M x hx, ?_, fun b hb => ?_⟩, Sim.tr (m := mentS nm) (X := X) (fun x v hx hv => hv.setRows hx) f1 h.T, h.df, h.sz, h.fr, fun b hb => ?_⟩
 ·obtain ⟨vs, h1, h2⟩ := h.hp.B x hx
  exact ⟨vs, h1, h2.monoM fun a b ha hab => hab.setRows (noL_mem (noBs_mem f2 x hx) a ha)⟩
 ·rcases List.mem_cons.1 hx with rfl | hx
  ·show OwS w ty n l (if nm = nm then ρ.root nm else ρ.root nm) (if nm = nm then xs else ρ.rows nm) (if nm = nm then F else ρ.foot nm)
   rw [if_pos rfl, if_pos rfl, if_pos rfl]; exact ho
  ·have hne : x.1 ≠ nm := noK_mem f3 x hx
   show OwS w x.2.1 x.2.2.1 x.2.2.2 (if x.1 = nm then ρ.root nm else ρ.root x.1) (if x.1 = nm then xs else ρ.rows x.1) (if x.1 = nm then F else ρ.foot x.1)
   rw [if_neg hne, if_neg hne, if_neg hne]; exact h.hp.R x hx
 ·rw [hfe]
  have hnd := h.hp.nd
  unfold feet at hnd
  obtain ⟨n1, n2, n3⟩ := List.nodup_append.1 hnd
  have hFn : ∀ b ∈ F, b ∉ feet ρ S := fun b hb => (hF b hb).1
  unfold feet at hFn
  refine List.nodup_append.2 ⟨n1, ?_, fun a ha b hb e => ?_⟩
  ·rw [List.append_assoc]
   exact List.nodup_append.2 ⟨hn, n2, fun a ha b hb e => hFn a ha (List.mem_append_right _ (e ▸ hb))⟩
  ·subst e
   rw [List.append_assoc] at hb
   rcases List.mem_append.1 hb with hb | hb
   ·exact hFn a hb (List.mem_append_left _ ha)
   ·exact n3 a ha a hb rfl
 ·rw [hfe] at hb
  rcases hmem b hb with hb | hb
  ·exact (hF b hb).2.1
  ·exact h.hp.dj b hb
 ·rw [hfe] at hb
  rcases hmem b hb with hb | hb
  ·exact (hF b hb).2.2
  ·exact h.ft b hb
variable {Q : Exit → Act → World → Prop} {ops : Array Oper} {rest : List Oper}
def flT (r : Nat) : List (Nat × AV) → List (Nat × AV)
  | [] => []
  | (t, v) :: T => match noV (mentS r) v with
    | true => (t, v) :: flT r T
    | false => (t, .no) :: flT r T
theorem flT_lk {r : Nat} : ∀ {T : List (Nat × AV)} {t : Nat} {av : AV}, lk (flT r T) t = some av → lk T t = some av ∨ av = .no ∧ ∃ av', lk T t = some av'
  | (k, v) :: T, t, av, h => by
    unfold flT at h
    split at h
    · unfold lk at h ⊢
      split at h
      · rename_i e; rw [if_pos e]; exact .inl h
      · rename_i e; rw [if_neg e]; exact flT_lk h
    · unfold lk at h ⊢
      split at h
      · rename_i e; rw [if_pos e]; cases h; exact .inr ⟨rfl, _, rfl⟩
      · rename_i e; rw [if_neg e]; exact flT_lk h
theorem flT_no {r : Nat} : ∀ {T : List (Nat × AV)}, noT (mentS r) (flT r T) = true
  | [] => rfl
  | (k, v) :: T => by
    unfold flT
    split
    · rename_i h; unfold noT; rw [h]; exact flT_no
    · unfold noT; exact flT_no
theorem nodup_swap {A B D G G' : List Nat} {o : List Nat} (h : (o ++ (A ++ (G ++ B)) ++ D).Nodup) (hG : G'.Nodup) (hn : ∀ b ∈ G', b ∈ G ∨ b ∉ o ++ (A ++ (G ++ B)) ++ D) : (o ++ (A ++ (G' ++ B)) ++ D).Nodup := by
 simp only [List.append_assoc] at *
 rw [List.nodup_append] at *
 obtain ⟨h1, h2, h3⟩ := h
 rw [List.nodup_append] at *
 obtain ⟨h4, h5, h6⟩ := h2
 rw [List.nodup_append] at *
 obtain ⟨h7, h8, h9⟩ := h5
 refine ⟨h1, ⟨h4, ⟨hG, h8, ?_⟩, ?_⟩, ?_⟩
 ·intro x hx y hy e
  subst e
  rcases hn x hx with h | h
  ·exact h9 x h x hy rfl
  ·exact h (by simp only [List.mem_append] at hy ⊢; rcases hy with hy | hy <;> simp [hy])
 ·intro x hx y hy e
  subst e
  rcases List.mem_append.1 hy with hy | hy
  ·rcases hn x hy with h | h
   ·exact h6 x hx x (List.mem_append_left _ h) rfl
   ·exact h (by simp [hx])
  ·exact h6 x hx x (List.mem_append_right _ hy) rfl
 ·intro x hx y hy e
  subst e
  rcases List.mem_append.1 hy with hy | hy
  ·exact h3 x hx x (List.mem_append_left _ hy) rfl
  ·rcases List.mem_append.1 hy with hy | hy
   ·rcases hn x hy with h | h
    ·exact h3 x hx x (List.mem_append_right _ (List.mem_append_left _ h)) rfl
    ·exact h (by simp [hx])
   ·exact h3 x hx x (List.mem_append_right _ (List.mem_append_right _ hy)) rfl
theorem cut_at {α : Type} : ∀ {l : List α} {q : Nat} {x : α}, l[q]? = some x → l = l.take q ++ x :: l.drop (q + 1)
 | a :: l, 0, x, h => by simp only [List.getElem?_cons_zero, Option.some.injEq] at h; subst h; simp
 | a :: l, q + 1, x, h => by
  simp only [List.getElem?_cons_succ] at h
  simp only [List.take_succ_cons, List.drop_succ_cons, List.cons_append, List.cons.injEq, true_and]
  exact cut_at h
 | [], q, x, h => by simp at h
theorem set_at {α : Type} : ∀ {l : List α} {q : Nat} {x : α}, q < l.length → l.set q x = l.take q ++ x :: l.drop (q + 1)
 | a :: l, 0, x, h => by simp
 | a :: l, q + 1, x, h => by
  simp only [List.set_cons_succ, List.take_succ_cons, List.drop_succ_cons, List.cons_append, List.cons.injEq, true_and]
  exact set_at (by simpa using h)
 | [], q, x, h => by simp at h
theorem own_sub {ty n : Nat} {rows : List (List C)} {u : Value} {xs : List Value} {F : List Nat} {k j : Nat} {row : List C} {c : C} (h : OwS w ty n rows u xs F) (hk : rows[k]? = some row) (hj : row[j]? = some c) :
  ∃ (v : Value) (o G A D : List Nat), xs[k * n + j]? = some v ∧ OwX w c v G ∧ F = o ++ (A ++ (G ++ D)) ∧ ∀ (w' : World) (G' : List Nat) (c' : C), (∀ b ∈ o ++ (A ++ D), w'.heap[b]? = w.heap[b]?) → OwX w' c' v G' →
   OwS w' ty n (rows.set k (row.set j c')) u xs (o ++ (A ++ (G' ++ D))) := by
 obtain ⟨Fs, ⟨m1, m2, m3⟩, rfl⟩ := h
 have hfa := flat_at m2 hk hj
 obtain ⟨v, G, hx, hG, hr⟩ := m3.get hfa
 have hkl : k < rows.length := (List.getElem?_eq_some_iff.1 hk).1
 have hjl : j < row.length := (List.getElem?_eq_some_iff.1 hj).1
 have hrl : row.length = n := m2 row (List.mem_of_getElem? hk)
 refine ⟨v, u.ownBlock.toList, G, (Fs.take (k * n + j)).flatten, (Fs.drop (k * n + j + 1)).flatten, hx, hr, ?_, fun w' G' c' hw ho => ?_⟩
 ·congr 1
  have := congrArg List.flatten (cut_at hG)
  rw [this]
  simp only [List.flatten_append, List.flatten_cons]
 ·refine ⟨Fs.take (k * n + j) ++ G' :: Fs.drop (k * n + j + 1), ⟨?_, fun ds hds => ?_, ?_⟩, by simp [List.flatten_append, List.flatten_cons]⟩
  ·have : w'.ownsRow 0 ty n u rows.length xs := owns_same' m1 fun b hb => hw b (List.mem_append_left _ (by rw [hb]; simp))
   rw [List.length_set]; exact this
  ·rcases List.mem_or_eq_of_mem_set hds with h9 | h9
   ·exact m2 ds h9
   ·rw [h9, List.length_set]; exact hrl
  ·have e : (rows.set k (row.set j c')).flatten = rows.flatten.take (k * n + j) ++ c' :: rows.flatten.drop (k * n + j + 1) := by
    rw [flat_set m2 hkl (by rw [List.length_set]; exact hrl), set_at hjl, flat_row m2 hk]
    have e1 := cut_l rows.flatten (m := k * n) (n := n) (o := j) om
    have e2 := cut_r rows.flatten (m := k * n) (n := n) (p := j + 1) om
    simp only [List.append_assoc, List.cons_append]
    rw [← List.append_assoc (rows.flatten.take (k * n)), e1, e2]
    rfl
   rw [e]
   have ex : xs = xs.take (k * n + j) ++ v :: xs.drop (k * n + j + 1) := cut_at hx
   rw [ex]
   refine All3.append (OwX.all_keep (m3.takeA _) fun b hb => hw b (List.mem_append_right _ (List.mem_append_left _ hb))) ⟨ho, OwX.all_keep (m3.dropA _) fun b hb => hw b (List.mem_append_right _ (List.mem_append_right _ hb))⟩
theorem own_typed {m : Nat} {c : List (List C)} {v : Value} {G : List Nat} (h : OwX w (.s m c) v G) : ∃ ty xs, OwS w ty m c v xs G := by
 obtain ⟨d, hd⟩ := h
 cases d with
 | zero => exact hd.elim
 | succ d =>
  obtain ⟨ty, xs, Fs, ⟨h1, h2, h3⟩, rfl⟩ := hd
  exact ⟨ty, xs, Fs, ⟨h1, h2, h3.mono fun c x G _ _ hr => ⟨d, hr⟩⟩, rfl⟩
end
section
variable {P : Program} {X : Cx} {S : St} {ρ : Rho} {a : Act} {w : World} {TT : List (Nat × TI)}
def intG (P : Program) (n : Nat) : Nat → List Field → Bool
 | j, [] => decide (j = n)
 | j, f :: fs => (f.name != "_") && (decide (f.offset = j) && (match P.underlying f.type with
  | some (.int .i64) => intG P n (j + 1) fs
  | some (.struct gs) => intS P (f.type, gs.size) && (sizB P f.type gs.size && intG P n (j + gs.size) fs)
  | _ => false))
def intT (P : Program) (x : Nat × Nat) : Bool :=
 match P.underlying x.1 with
 | some (.struct fs) => intG P x.2 0 fs.toList && (!P.stoodInHeld x.1 && !P.eqGuardType P.depth x.1)
 | _ => false
theorem ext_map (xs : List Int) (o k : Nat) : (xs.map (Value.int .i64)).toArray.extract o (o + k) = (((xs.drop o).take k).map (Value.int .i64)).toArray := by
 apply Array.ext'
 rw [Array.toList_extract]
 simp only [List.extract, List.map_take, List.map_drop]
 rw [show o + k - o = k by omega]
theorem drop_split {xs ys : List Int} {o k : Nat} (h : ((xs.drop o).take k = (ys.drop o).take k) = True) : (xs.drop (o + k) = ys.drop (o + k)) = (xs.drop o = ys.drop o) := by
 have h' := of_eq_true h
 apply propext
 constructor
 ·intro h2
  rw [← List.take_append_drop k (xs.drop o), ← List.take_append_drop k (ys.drop o), h', List.drop_drop, List.drop_drop, h2]
 ·intro h2
  rw [← List.drop_drop, ← List.drop_drop, h2]
theorem run_eqG (d n : Nat) (xs ys : List Int) (hx : xs.length = n) (hy : ys.length = n) : ∀ (fs : List Field) (j : Nat), intG P n j fs = true →
  j ≤ n ∧ (Op.eqFields (d + 2) (xs.map (Value.int .i64)).toArray (ys.map (Value.int .i64)).toArray fs).run P w = .ok (decide (xs.drop j = ys.drop j)) w
 | [], j, h => by
  have h : j = n := of_decide_eq_true h
  subst h
  rw [List.drop_eq_nil_of_le om, List.drop_eq_nil_of_le om]
  simp [Op.eqFields]
 | f :: fs, j, h => by
  unfold intG at h
  rw [Bool.and_eq_true, Bool.and_eq_true] at h
  obtain ⟨h1, h2, h3⟩ := h
  have h1 : f.name ≠ "_" := by simpa using h1
  have h2 : f.offset = j := of_decide_eq_true h2
  subst h2
  split at h3
  ·rename_i hu
   obtain ⟨hle, ih⟩ := run_eqG d n xs ys hx hy fs (f.offset + 1) h3
   refine ⟨by omega, ?_⟩
   have hag : (isAgg f.type).run P w = .ok false w := by unfold Go.isAgg; rw [Sem.run_bind, run_underlying hu]; rfl
   have hxl : f.offset < xs.length := by omega
   have hyl : f.offset < ys.length := by omega
   have hpx : (part f.type (xs.map (Value.int .i64)).toArray f.offset).run P w = .ok (.int .i64 xs[f.offset]) w := by
    unfold part; simp [hag, hxl]
   have hpy : (part f.type (ys.map (Value.int .i64)).toArray f.offset).run P w = .ok (.int .i64 ys[f.offset]) w := by
    unfold part; simp [hag, hyl]
   have he : (Op.equalIn (d + 2) f.type (.int .i64 xs[f.offset]) (.int .i64 ys[f.offset])).run P w = .ok (xs[f.offset] == ys[f.offset]) w := by
    simp [Op.equalIn, run_underlying hu]
   unfold Op.eqFields
   rw [if_pos h1]
   simp only [Sem.run_bind, hpx, hpy, he, Result.andThen_ok]
   rw [List.drop_eq_getElem_cons hxl, List.drop_eq_getElem_cons hyl]
   by_cases hxy : xs[f.offset] = ys[f.offset]
   ·simp only [hxy, beq_self_eq_true, Bool.not_true, Bool.false_eq_true, if_false, ih, List.cons.injEq, true_and]
   ·have h9 : (xs[f.offset] == ys[f.offset]) = false := by simpa using hxy
    have h8 : decide (xs[f.offset] :: xs.drop (f.offset + 1) = ys[f.offset] :: ys.drop (f.offset + 1)) = false := decide_eq_false fun h => hxy (List.cons.inj h).1
    rw [h8]
    simp [h9]
  ·rename_i gs hu
   rw [Bool.and_eq_true, Bool.and_eq_true] at h3
   obtain ⟨h4, h5, h6⟩ := h3
   obtain ⟨hle, ih⟩ := run_eqG d n xs ys hx hy fs (f.offset + gs.size) h6
   refine ⟨by omega, ?_⟩
   have hag : (isAgg f.type).run P w = .ok true w := by unfold Go.isAgg; rw [Sem.run_bind, run_underlying hu]; rfl
   have hsz : (Go.sizeOf f.type).run P w = .ok gs.size w := by
    unfold sizB at h5
    split at h5
    ·rename_i i hi
     simp [Go.sizeOf, typeInfo, hi, of_decide_eq_true h5]
    ·cases h5
   have hpx : (part f.type (xs.map (Value.int .i64)).toArray f.offset).run P w = .ok (.agg (((xs.drop f.offset).take gs.size).map (Value.int .i64)).toArray) w := by
    unfold part
    simp only [Sem.run_bind, hag, Result.andThen_ok, if_true, hsz, Sem.run_pure, ext_map]
   have hpy : (part f.type (ys.map (Value.int .i64)).toArray f.offset).run P w = .ok (.agg (((ys.drop f.offset).take gs.size).map (Value.int .i64)).toArray) w := by
    unfold part
    simp only [Sem.run_bind, hag, Result.andThen_ok, if_true, hsz, Sem.run_pure, ext_map]
   generalize hA : (xs.drop f.offset).take gs.size = A at hpx
   generalize hB : (ys.drop f.offset).take gs.size = B at hpy
   have hAl : A.length = gs.size := by rw [← hA, List.length_take, List.length_drop]; omega
   have hBl : B.length = gs.size := by rw [← hB, List.length_take, List.length_drop]; omega
   have he : (Op.equalIn (d + 2) f.type (.agg (A.map (Value.int .i64)).toArray) (.agg (B.map (Value.int .i64)).toArray)).run P w = .ok (decide (A = B)) w := by
    unfold intS at h4
    rw [hu] at h4
    simp only [Bool.and_eq_true, decide_eq_true_eq, Bool.not_eq_true'] at h4
    obtain ⟨_, k2, k3, _⟩ := h4
    have hf : P.fieldsOf f.type = gs := by simp [Program.fieldsOf, hu]
    have e1 := run_equalIn_struct (P := P) (w := w) (d + 1) f.type (A.map (Value.int .i64)).toArray (B.map (Value.int .i64)).toArray (by rw [hf]; exact hu) k3
    have e2 := run_eqF (P := P) (w := w) d A B gs.toList 0 k2 (by simp; omega) (by simp; omega)
    rw [hf, e2] at e1
    simpa using e1
   unfold Op.eqFields
   rw [if_pos h1]
   simp only [Sem.run_bind, hpx, hpy, he, Result.andThen_ok]
   by_cases hAB : A = B
   ·have e3 := drop_split (xs := xs) (ys := ys) (o := f.offset) (k := gs.size) (by rw [hA, hB]; exact eq_true hAB)
    have e4 : decide (xs.drop (f.offset + gs.size) = ys.drop (f.offset + gs.size)) = decide (xs.drop f.offset = ys.drop f.offset) := by simp only [e3]
    simp only [hAB, decide_true, Bool.not_true, Bool.false_eq_true, if_false, ih, e4]
   ·have h8 : decide (xs.drop f.offset = ys.drop f.offset) = false := decide_eq_false fun h => hAB (by rw [← hA, ← hB, h])
    rw [h8]
    simp [hAB]
  ·cases h3
theorem run_eqT {T n : Nat} {xs ys : List Int} (h : intT P (T, n) = true) (hx : xs.length = n) (hy : ys.length = n) : (Op.equal T (.agg (xs.map (Value.int .i64)).toArray) (.agg (ys.map (Value.int .i64)).toArray)).run P w = .ok (decide (xs = ys)) w := by
 unfold intT at h
 split at h
 ·rename_i fs hu
  simp only [Bool.and_eq_true, Bool.not_eq_true'] at h
  obtain ⟨h2, h3, _⟩ := h
  have hf : P.fieldsOf T = fs := by simp [Program.fieldsOf, hu]
  have := run_equalIn_struct (P := P) (w := w) 9999 T (xs.map (Value.int .i64)).toArray (ys.map (Value.int .i64)).toArray (by rw [hf]; exact hu) h3
  have h9 := (run_eqG (P := P) (w := w) 9997 n xs ys hx hy fs.toList 0 h2).2
  rw [hf] at this
  unfold Op.equal
  rw [show Op.maxDepth = 9999 + 1 from rfl, this, h9]
  simp
 ·cases h
theorem qw_eqT {op : BinOp} {t yt n : TypeId} {x y : Operand} {l m : List AC} {xs ys : List Int} {b : Bool} (hI : intT P (t, n) = true) (hx : opv S.T x = some (.p true l)) (hy : opv S.T y = some (.p true m)) (h1 : numsO l = some xs) (h2 : numsO m = some ys) (hl1 : lenB xs n = true) (hl2 : lenB ys n = true)
  (hb : eqO xs ys op = some b) : QuietW P X S (.binOp op t x y yt) (.p false [.c (.v (.bool b))]) := by
 refine fun ρ a w hs => ⟨.bool b, ⟨⟨0, rfl, rfl⟩, trivial⟩, fun _ _ _ _ _ w' => ?_⟩
 obtain ⟨us, hp, hu⟩ := opv_rep hs hx
 obtain ⟨vs, hq, hv⟩ := opv_rep hs hy
 rw [numsO_rep h1 hu] at hp
 rw [numsO_rep h2 hv] at hq
 have hr := run_eqT (w := w') hI (lenB_eq hl1) (lenB_eq hl2)
 have hg : (eqGuard op t x y (a.eval x) (a.eval y)).run P w' = .ok () w' := by
  unfold intT at hI
  split at hI
  ·simp only [Bool.and_eq_true, Bool.not_eq_true'] at hI
   rw [hp, hq]
   unfold eqGuard
   cases op <;> first | (cases hb; done) | simp [hI.2.2]
  ·cases hI
 rw [hp, hq] at hg
 cases op <;> first | (cases hb; done) | skip
 ·cases hb
  simp [execOp, hp, hq, hg, binOp, hr]
 ·cases hb
  simp [execOp, hp, hq, hg, binOp, hr]
theorem q_eqT {op : BinOp} {t yt n : TypeId} {x y : Operand} {l m : List AC} {xs ys : List Int} {b : Bool} (hI : intT P (t, n) = true) (hx : opv S.T x = some (.p true l)) (hy : opv S.T y = some (.p true m)) (h1 : numsO l = some xs) (h2 : numsO m = some ys) (hl1 : lenB xs n = true) (hl2 : lenB ys n = true)
 (hb : eqO xs ys op = some b) : Quiet P X S (.binOp op t x y yt) (.p false [.c (.v (.bool b))]) := (qw_eqT hI hx hy h1 h2 hl1 hl2 hb).q
end
end Go.Proofs.YtahkjonokeifmaaGreat
