/- Regions that draw their order, on states. No program in it. -/
import Derived.Test.YtphaggopgdbojaaGreatReVA
import Derived.Deep.RegionHeld3
namespace Go.Proofs.YtphaggopgdbojaaGreat
open Go.ChangeShapes Go.WideShapes Go.ChangeAt Go.RowKit
set_option linter.unusedVariables false
section
variable {P : Program} {ops : Array Oper} {Q : Exit → Act → World → Prop} {S : World → Prop} {md : Region.Mode} {ks : List Nat}
def unbroken (ks : List Nat) (listed : Array Bool) : Bool := ks.all fun k => !listed.getD k true
def before (md : Region.Mode) (ops : Array Oper) : Nat → Nat → Nat → Bool
  | 0, _, _ => false
  | n + 1, k, i => match ops[k]? with
    | none => false
    | some o => o.after.any fun e => Region.binds md e && (e.on == i || before md ops n e.on i)
def closedB (md : Region.Mode) (ops : Array Oper) (listed : Array Bool) : Bool :=
  (List.range ops.size).all fun j => !listed.getD j true || match ops[j]? with
    | none => true
    | some o => o.after.all fun e => !Region.binds md e || listed.getD e.on true
def Closed (md : Region.Mode) (ops : Array Oper) (listed : Array Bool) : Prop :=
  ∀ j o, ops[j]? = some o → listed.getD j true = true → ∀ e ∈ o.after, Region.binds md e = true → listed.getD e.on true = true
theorem closed_of (listed : Array Bool) (h : closedB md ops listed = true) : Closed md ops listed := by
  intro j o hj hl e he hb
  have hlt : j < ops.size := (Array.getElem?_eq_some_iff.1 hj).1
  have h1 := List.all_eq_true.1 h j (List.mem_range.2 hlt)
  rw [hl, hj] at h1
  simp only [Bool.not_true, Bool.false_or, Array.all_eq_true_iff_forall_mem] at h1
  have h2 := h1 e he
  rw [hb] at h2
  simpa using h2
theorem listed_before {listed : Array Bool} (hc : Closed md ops listed) {i : Nat} : ∀ (n k : Nat), before md ops n k i = true →
    (∀ o, ops[k]? = some o → ∀ e ∈ o.after, Region.binds md e = true → listed.getD e.on true = true) → listed.getD i true = true
  | 0, _, h, _ => by simp [before] at h
  | n + 1, k, h, hk => by
    unfold before at h
    split at h
    · cases h
    · rename_i o ho
      obtain ⟨e, he, h2⟩ := Array.any_eq_true'.1 h
      simp only [Bool.and_eq_true, Bool.or_eq_true, beq_iff_eq] at h2
      obtain ⟨hb, h3⟩ := h2
      have h4 := hk o ho e he hb
      rcases h3 with rfl | h3
      · exact h4
      · exact listed_before hc n e.on h3 fun o' ho' => hc e.on o' ho' h4
theorem unbroken_at {listed : Array Bool} (h : unbroken ks listed = true) {k : Nat} (hk : k ∈ ks) : listed.getD k true = false := by
  have := List.all_eq_true.1 h k hk
  simpa using this
theorem unbroken_of {listed : Array Bool} (h : ∀ k ∈ ks, listed.getD k true = false) : unbroken ks listed = true :=
  List.all_eq_true.2 fun k hk => by rw [h k hk]; rfl
/-- whatever order is picked from here on; S holds until one of ks has come up -/
def wpAnyK (P : Program) (md : Region.Mode) (ops : Array Oper) (Q : Exit → Act → World → Prop) (ks : List Nat) (S : World → Prop) : Nat → Array Bool → Act → World → Prop
  | 0, listed, a, w => Region.ready md ops listed = [] ∧ Q .normal a w
  | fuel + 1, listed, a, w =>
    (Region.ready md ops listed = [] → Q .normal a w) ∧
    ∀ i ∈ Region.ready md ops listed, wpOp P ops Q i (fun a' w' => (unbroken ks (listed.setIfInBounds i true) = true → S w') ∧ wpAnyK P md ops Q ks S fuel (listed.setIfInBounds i true) a' w') a w
theorem wpAny_of_K : ∀ (fuel : Nat) (listed : Array Bool) (a : Act) (w : World), wpAnyK P md ops Q ks S fuel listed a w → wpAny P md ops Q fuel listed a w
  | 0, _, _, _, h => h
  | fuel + 1, _, _, _, h => ⟨h.1, fun i hi => wpOp_mono (fun a' w' h' => wpAny_of_K fuel _ a' w' h'.2) (h.2 i hi)⟩
theorem getD_set_true {listed : Array Bool} {i j : Nat} (h : listed.getD i true = true) : (listed.setIfInBounds j true).getD i true = true := by
  by_cases hij : j = i
  · subst hij
    by_cases hlt : j < listed.size
    · simp [hlt]
    · simp [hlt]
  · rw [getD_set_ne true hij]; exact h
theorem broken_more {listed : Array Bool} (i : Nat) (h : unbroken ks listed = false) : unbroken ks (listed.setIfInBounds i true) = false := by
  unfold unbroken at *
  rw [List.all_eq_false] at *
  obtain ⟨k, hk, h2⟩ := h
  refine ⟨k, hk, ?_⟩
  have h3 : listed.getD k true = true := by simpa using h2
  rw [getD_set_true h3]; simp
theorem K_of_held : ∀ (fuel : Nat) (listed : Array Bool) (a : Act) (w : World), unbroken ks listed = false → wpAnyH P md ops Q (fun _ => True) fuel listed a w → wpAnyK P md ops Q ks S fuel listed a w
  | 0, _, _, _, _, h => h
  | fuel + 1, listed, _, _, hu, h => ⟨h.1, fun i hi => wpOp_mono (fun a' w' h' => ⟨fun h9 => absurd h9 (by rw [broken_more i hu]; simp), K_of_held fuel _ a' w' (broken_more i hu) h'.2⟩) (h.2 i hi)⟩
theorem wpAnyK_first {i : Nat} {oi : Oper} {v : Value} (hi : ops[i]? = some oi) (hsel : ∀ (j : Nat) (o : Oper) cs b, ops[j]? = some o → o.op ≠ .select cs b)
    (hQ : ∀ c a w, Q (.panic c) (a.put oi.dst v) w → Q (.panic c) a w) (hbef : ∀ k ∈ ks, before md ops ops.size k i = true) :
    ∀ (fuel : Nat) (listed : Array Bool) (a : Act) (w : World),
      (∀ j oj, ops[j]? = some oj → j ≠ i → listed.getD j true = false → (∀ e ∈ oj.after, Region.binds md e = true → e.on ≠ i) → oi.apart ops oj = true) → Closed md ops listed → unbroken ks listed = true →
      i ∈ Region.ready md ops listed → YieldsIf P ops S oi v a → S w →
      wpAnyK P md ops Q ks S fuel (listed.setIfInBounds i true) (a.put oi.dst v) w → wpAnyK P md ops Q ks S (fuel + 1) listed a w := by
  intro fuel
  induction fuel with
  | zero =>
    intro listed a w _ _ hu hr hy hS H
    refine ⟨fun h => (by rw [h] at hr; cases hr), fun j hj => ?_⟩
    by_cases hji : j = i
    · subst hji; exact hy.wpOp hi hS ⟨fun _ => hS, H⟩
    · have := ready_mono hj hji
      rw [H.1] at this
      cases this
  | succ fuel ih =>
    intro listed a w hfree hcl hu hr hy hS H
    refine ⟨fun h => (by rw [h] at hr; cases hr), fun j hj => ?_⟩
    by_cases hji : j = i
    · subst hji; exact hy.wpOp hi hS ⟨fun _ => hS, H⟩
    · have h1 := H.2 j (ready_mono hj hji)
      obtain ⟨hiun, oi', hoi', halli⟩ := mem_ready.1 hr
      have hiun' : listed.getD i true = false := hiun
      obtain ⟨hjun, oj, hoj, hall⟩ := mem_ready.1 hj
      have hik : i ∉ ks := fun hk => by
        have := listed_before hcl _ _ (hbef i hk) (fun o ho e he hb => by
          rw [hoi'] at ho; cases ho
          have := halli e he hb
          rcases Nat.lt_or_ge e.on listed.size with h' | h'
          · simp [h'] at this ⊢; exact this
          · simp [Array.getElem?_eq_none h'])
        rw [hiun'] at this; cases this
      have hjk : j ∉ ks := fun hk => by
        have := listed_before hcl _ _ (hbef j hk) (fun o ho e he hb => by
          rw [hoj] at ho; cases ho
          have := hall e he hb
          rcases Nat.lt_or_ge e.on listed.size with h' | h'
          · simp [h'] at this ⊢; exact this
          · simp [Array.getElem?_eq_none h'])
        rw [hiun'] at this; cases this
      have hnot : ∀ e ∈ oj.after, Region.binds md e = true → e.on ≠ i := fun e he hb heq => by
        have h1 := hall e he hb
        have h0 := (mem_ready.1 hr).1
        rw [heq] at h1
        rcases Nat.lt_or_ge i listed.size with h' | h'
        · simp [h'] at h0 h1; rw [h0] at h1; cases h1
        · simp [Array.getElem?_eq_none h'] at h1
      have h2 := wpOp_putIf hoj (hfree j oj hoj hji hjun hnot) (fun cs b => hsel i oi cs b hi) (fun cs b => hsel j oj cs b hoj) hQ hy h1
      have hfree' : ∀ k ok, ops[k]? = some ok → k ≠ i → (listed.setIfInBounds j true).getD k true = false →
          (∀ e ∈ ok.after, Region.binds md e = true → e.on ≠ i) → oi.apart ops ok = true := fun k ok hk hki hun hno => by
        refine hfree k ok hk hki ?_ hno
        by_cases hjk : j = k
        · subst hjk; exact hjun
        · rw [getD_set_ne true hjk] at hun; exact hun
      have hcl' : Closed md ops (listed.setIfInBounds j true) := fun k o hk hl e he hb => by
        by_cases hjk : j = k
        · subst hjk
          rw [hoj] at hk; cases hk
          have := hall e he hb
          refine getD_set_true ?_
          rcases Nat.lt_or_ge e.on listed.size with h' | h'
          · simp [h'] at this ⊢; exact this
          · simp [Array.getElem?_eq_none h']
        · rw [getD_set_ne true hjk] at hl
          exact getD_set_true (hcl k o hk hl e he hb)
      have hu' : unbroken ks (listed.setIfInBounds j true) = true := unbroken_of fun k hk => by
        rw [getD_set_ne true (fun e : j = k => hjk (by rw [e]; exact hk))]
        exact unbroken_at hu hk
      have hu2 : unbroken ks ((listed.setIfInBounds i true).setIfInBounds j true) = true := unbroken_of fun k hk => by
        rw [getD_set_ne true (fun e : j = k => hjk (by rw [e]; exact hk)), getD_set_ne true (fun e : i = k => hik (by rw [e]; exact hk))]
        exact unbroken_at hu hk
      refine wpOp_mono (fun a' w' h3 => ⟨fun _ => h3.2.1 hu2, ih (listed.setIfInBounds j true) a' w' hfree' hcl' hu' (ready_mono hr (Ne.symm hji)) h3.1 (h3.2.1 hu2) ?_⟩) h2
      rw [Array.setIfInBounds_comm _ _ hji]
      exact h3.2.2
theorem wpAnyK_firstP {i : Nat} {oi : Oper} {v : Value} (hi : ops[i]? = some oi) (hsel : ∀ (j : Nat) (o : Oper) cs b, ops[j]? = some o → o.op ≠ .select cs b)
    (hQ : ∀ c a w, Q (.panic c) (a.put oi.dst v) w → Q (.panic c) a w) (hik : i ∉ ks) :
    ∀ (fuel : Nat) (listed : Array Bool) (a : Act) (w : World),
      (∀ j oj, ops[j]? = some oj → j ≠ i → listed.getD j true = false → (∀ e ∈ oj.after, Region.binds md e = true → e.on ≠ i) → oi.apart ops oj = true) →
      i ∈ Region.ready md ops listed → YieldsIf P ops (fun _ => True) oi v a → (unbroken ks listed = true → S w) →
      wpAnyK P md ops Q ks S fuel (listed.setIfInBounds i true) (a.put oi.dst v) w → wpAnyK P md ops Q ks S (fuel + 1) listed a w := by
  have hset : ∀ L : Array Bool, unbroken ks (L.setIfInBounds i true) = true → unbroken ks L = true := fun L h => unbroken_of fun k hk => by
    have := unbroken_at h hk
    rwa [getD_set_ne true (fun e : i = k => hik (by rw [e]; exact hk))] at this
  have hset2 : ∀ L : Array Bool, unbroken ks L = true → unbroken ks (L.setIfInBounds i true) = true := fun L h => unbroken_of fun k hk => by
    rw [getD_set_ne true (fun e : i = k => hik (by rw [e]; exact hk))]
    exact unbroken_at h hk
  intro fuel
  induction fuel with
  | zero =>
    intro listed a w _ hr hy hS H
    refine ⟨fun h => (by rw [h] at hr; cases hr), fun j hj => ?_⟩
    by_cases hji : j = i
    · subst hji; exact hy.wpOp hi trivial ⟨fun h => hS (hset _ h), H⟩
    · have := ready_mono hj hji
      rw [H.1] at this
      cases this
  | succ fuel ih =>
    intro listed a w hfree hr hy hS H
    refine ⟨fun h => (by rw [h] at hr; cases hr), fun j hj => ?_⟩
    by_cases hji : j = i
    · subst hji; exact hy.wpOp hi trivial ⟨fun h => hS (hset _ h), H⟩
    · have h1 := H.2 j (ready_mono hj hji)
      obtain ⟨hjun, oj, hoj, hall⟩ := mem_ready.1 hj
      have hnot : ∀ e ∈ oj.after, Region.binds md e = true → e.on ≠ i := fun e he hb heq => by
        have h1 := hall e he hb
        have h0 := (mem_ready.1 hr).1
        rw [heq] at h1
        rcases Nat.lt_or_ge i listed.size with h' | h'
        · simp [h'] at h0 h1; rw [h0] at h1; cases h1
        · simp [Array.getElem?_eq_none h'] at h1
      have h2 := wpOp_putIf hoj (hfree j oj hoj hji hjun hnot) (fun cs b => hsel i oi cs b hi) (fun cs b => hsel j oj cs b hoj) hQ hy h1
      have hfree' : ∀ k ok, ops[k]? = some ok → k ≠ i → (listed.setIfInBounds j true).getD k true = false →
          (∀ e ∈ ok.after, Region.binds md e = true → e.on ≠ i) → oi.apart ops ok = true := fun k ok hk hki hun hno => by
        refine hfree k ok hk hki ?_ hno
        by_cases hjk : j = k
        · subst hjk; exact hjun
        · rw [getD_set_ne true hjk] at hun; exact hun
      have hcomm : (listed.setIfInBounds i true).setIfInBounds j true = (listed.setIfInBounds j true).setIfInBounds i true := Array.setIfInBounds_comm _ _ (Ne.symm hji)
      refine wpOp_mono (fun a' w' h3 => ?_) h2
      have hs' : unbroken ks (listed.setIfInBounds j true) = true → S w' := fun hu => h3.2.1 (by rw [hcomm]; exact hset2 _ hu)
      refine ⟨hs', ih (listed.setIfInBounds j true) a' w' hfree' (ready_mono hr (Ne.symm hji)) h3.1 hs' ?_⟩
      rw [← hcomm]
      exact h3.2.2
theorem wpAnyK_mono {S2 : World → Prop} (hm : ∀ W, S W → S2 W) : ∀ (fuel : Nat) (listed : Array Bool) (a : Act) (w : World), wpAnyK P md ops Q ks S fuel listed a w → wpAnyK P md ops Q ks S2 fuel listed a w
  | 0, _, _, _, h => h
  | fuel + 1, _, _, _, h => ⟨h.1, fun i hi => wpOp_mono (fun a' w' h' => ⟨fun hu => hm _ (h'.1 hu), wpAnyK_mono hm fuel _ a' w' h'.2⟩) (h.2 i hi)⟩
end
/-- the region's end: a state -/
def QS (X : Cx) (S' : St) : Act → World → Prop := fun a w => ∃ ρ, Sim X ρ S' a w
def QK (Q : Act → World → Prop) : Exit → Act → World → Prop
  | .normal, a, w => Q a w
  | _, _, _ => False
/-- whatever order is picked: from S to S'; none of ks has come up -/
def RDk (P : Program) (X : Cx) (ops : Array Oper) (ks : List Nat) (fuel : Nat) (listed : Array Bool) (S : St) (Q : Act → World → Prop) : Prop :=
  ∀ ρ a w, Sim X ρ S a w → wpAnyK P .any ops (QK Q) ks (fun W => Below w.heap.size w W) fuel listed a w
/-- one of them has -/
def RDb (P : Program) (X : Cx) (ops : Array Oper) (fuel : Nat) (listed : Array Bool) (S : St) (Q : Act → World → Prop) : Prop :=
  ∀ ρ a w, Sim X ρ S a w → wpAnyH P .any ops (QK Q) (fun _ => True) fuel listed a w
/-- one operation comes up -/
def RDo (P : Program) (X : Cx) (ops : Array Oper) (ks : List Nat) (fuel : Nat) (listed : Array Bool) (i : Nat) (S : St) (Q : Act → World → Prop) : Prop :=
  ∀ ρ a w, Sim X ρ S a w → wpOp P ops (QK Q) i (fun a' w' => (unbroken ks (listed.setIfInBounds i true) = true → Below w.heap.size w w') ∧ wpAnyK P .any ops (QK Q) ks (fun W => Below w.heap.size w W) fuel (listed.setIfInBounds i true) a' w') a w
def GOk (ops : Array Oper) (T : List (Nat × AV)) : Option (Nat × Bool) → Prop
  | none => True
  | some (j, want) => ∃ t b, gTmp ops j = some t ∧ lk T t = some (.p false [.c (.v (.bool b))]) ∧ b = want
def GNo (ops : Array Oper) (T : List (Nat × AV)) : Option (Nat × Bool) → Prop
  | none => False
  | some (j, want) => ∃ t, gTmp ops j = some t ∧ ((∃ b, lk T t = some (.p false [.c (.v (.bool b))]) ∧ b = !want) ∨ lk T t = some .und)
section
variable {P : Program} {X : Cx} {S S' S1 : St} {Q : Act → World → Prop} {ops : Array Oper} {ks : List Nat} {T : List (Nat × AV)} {B : List (Nat × Nat × List AC)} {R : List (Nat × Nat × Nat × List (List C))} {M : List (Nat × (Int → Option Value))} {fuel : Nat} {listed : Array Bool} {d : Tmp} {op : Op} {ty : TypeId} {pos : String} {af : Array Edge} {g : Option (Nat × Bool)} {av : AV}
theorem GOk.wanted {ρ : Rho} {a : Act} {w : World} {o : Oper} (hs : Sim X ρ S a w) (h : GOk ops S.T o.guard) : Region.wanted o (yielded ops a.tmps) = true := by
  cases hg : o.guard with
  | none => simp [Region.wanted, hg]
  | some p =>
    obtain ⟨j, want⟩ := p
    rw [hg] at h
    obtain ⟨t, b, h1, h2, rfl⟩ := h
    rw [wanted_of hs hg h1 h2]; simp
theorem GNo.wanted {ρ : Rho} {a : Act} {w : World} {o : Oper} (hs : Sim X ρ S a w) (h : GNo ops S.T o.guard) : Region.wanted o (yielded ops a.tmps) = false := by
  cases hg : o.guard with
  | none => rw [hg] at h; exact h.elim
  | some p =>
    obtain ⟨j, want⟩ := p
    rw [hg] at h
    obtain ⟨t, h1, h2⟩ := h
    rcases h2 with ⟨b, h2, rfl⟩ | h2
    · rw [wanted_of hs hg h1 h2]; cases want <;> rfl
    · exact wanted_und hs hg h1 h2
theorem ev_draw {id : Nat} {l : List Oper} (ks : List Nat) (hm : P.follows .mixedOrders = true) (h : RDk P X l.toArray ks l.toArray.size (Array.replicate l.toArray.size false) S (QS X S')) {Q : Exit → Act → World → Prop} (k : EvE X .normal Q S') : Ev P X (.region id l.toArray true) Q S := by
  intro ρ a w hs
  refine wp_mono (Q := QK (QS X S')) (wp_region_any hm (wpAny_of_K _ _ _ _ (h ρ a w.drew hs.drew))) fun e a' w' hq => ?_
  cases e with
  | normal => obtain ⟨ρ', h'⟩ := hq; exact k ρ' a' w' h'
  | _ => exact hq.elim
/-- the rest of the walk stands at the region's end -/
theorem ev_drawq {id : Nat} {l : List Oper} {Q : Exit → Act → World → Prop} (ks : List Nat) (hm : P.follows .mixedOrders = true) (h : RDk P X l.toArray ks l.toArray.size (Array.replicate l.toArray.size false) S (Q .normal)) : Ev P X (.region id l.toArray true) Q S :=
  fun ρ a w hs => wp_mono (Q := QK (Q .normal)) (wp_region_any hm (wpAny_of_K _ _ _ _ (h ρ a w.drew hs.drew))) fun e a' w' hq => by
    cases e with
    | normal => exact hq
    | _ => exact hq.elim
theorem rdk_part {t : Tmp} {b : Bool} (hv : lk S.T t = some (.p false [.c (.v (.bool b))])) (ht : b = true → RDk P X ops ks fuel listed S Q) (hf : b = false → RDk P X ops ks fuel listed S Q) : RDk P X ops ks fuel listed S Q := by
  cases b
  · exact hf rfl
  · exact ht rfl
theorem rdk_partn {t : Tmp} {b : Bool} (hv : lk S.T t = some (.p false [.c (.v (.bool !b))])) (ht : b = false → RDk P X ops ks fuel listed S Q) (hf : b = true → RDk P X ops ks fuel listed S Q) : RDk P X ops ks fuel listed S Q := by
  cases b
  · exact ht rfl
  · exact hf rfl
def chkT (ops : Array Oper) (ks : List Nat) (listed : Array Bool) (i : Nat) : Bool :=
  Region.noSelect ops && (Region.free .any ops listed i && ((Region.ready .any ops listed).contains i && ((ks.all fun k => before .any ops ops.size k i) && (closedB .any ops listed && unbroken ks listed))))
theorem rdk_take (i : Nat) (hi : ops[i]? = some ⟨some d, op, ty, pos, af, g⟩) (hc : chkT ops ks listed i = true) (hg : GOk ops T g) (hq : Quiet P X ⟨T, B, R, M⟩ op av) (hN : okD X d = true)
    (h : RDk P X ops ks fuel (listed.setIfInBounds i true) ⟨(d, av) :: T, B, R, M⟩ Q) : RDk P X ops ks (fuel + 1) listed ⟨T, B, R, M⟩ Q := by
  intro ρ a w hs
  simp only [chkT, Bool.and_eq_true] at hc
  obtain ⟨v, h1, h2⟩ := hq ρ a w hs
  exact wpAnyK_first hi (Region.noSelect_spec hc.1) (fun _ _ _ h => h) (fun k hk => List.all_eq_true.1 hc.2.2.2.1 k hk) fuel listed a w (Region.free_spec hi hc.2.1) (closed_of _ hc.2.2.2.2.1) hc.2.2.2.2.2 (by simpa using hc.2.2.1)
    (.inl ⟨GOk.wanted hs hg, fun w' hw => h2 _ _ _ _ _ w' hw⟩) (Below.refl _ _) (h ρ _ w (hs.put hN h1))
theorem rdk_skip (i : Nat) (hi : ops[i]? = some ⟨some d, op, ty, pos, af, g⟩) (hc : chkT ops ks listed i = true) (hg : GNo ops T g) (hN : okD X d = true)
    (h : RDk P X ops ks fuel (listed.setIfInBounds i true) ⟨(d, .und) :: T, B, R, M⟩ Q) : RDk P X ops ks (fuel + 1) listed ⟨T, B, R, M⟩ Q := by
  intro ρ a w hs
  simp only [chkT, Bool.and_eq_true] at hc
  exact wpAnyK_first hi (Region.noSelect_spec hc.1) (fun _ _ _ h => h) (fun k hk => List.all_eq_true.1 hc.2.2.2.1 k hk) fuel listed a w (Region.free_spec hi hc.2.1) (closed_of _ hc.2.2.2.2.1) hc.2.2.2.2.2 (by simpa using hc.2.2.1)
    (.inr ⟨GNo.wanted hs hg, rfl⟩) (Below.refl _ _) (h ρ _ w (hs.put hN rfl))
theorem rdk_one (i : Nat) (hr : Region.ready .any ops listed = [i]) (h : RDo P X ops ks fuel listed i S Q) : RDk P X ops ks (fuel + 1) listed S Q :=
  fun ρ a w hs => ⟨fun h0 => absurd h0 (by rw [hr]; simp), fun j hj => by
    rw [hr] at hj
    obtain rfl := List.mem_singleton.1 hj
    exact h ρ a w hs⟩
theorem rdk_two (i j : Nat) (hr : Region.ready .any ops listed = [i, j]) (h1 : RDo P X ops ks fuel listed i S Q) (h2 : RDo P X ops ks fuel listed j S Q) : RDk P X ops ks (fuel + 1) listed S Q :=
  fun ρ a w hs => ⟨fun h0 => absurd h0 (by rw [hr]; simp), fun q hq => by
    rw [hr] at hq
    rcases List.mem_cons.1 hq with rfl | hq
    · exact h1 ρ a w hs
    · obtain rfl := List.mem_singleton.1 hq
      exact h2 ρ a w hs⟩
/-- a call comes up -/
theorem rdo_call {i : Nat} {f : FuncId} {xs : List Operand} {tys : Array TypeId} {args : List (Bool × List C)} {res : List (Bool × List RC)} {nm : Nat} {R' : List (Nat × Nat × Nat × List (List C))} (hi : ops[i]? = some ⟨some d, .call ⟨.value (.func f), xs.toArray, tys⟩, ty, pos, af, g⟩) (hg : GOk ops T g)
    (hF : chkF P f = true) (hc : Pure P f args res) (hr : RsA ⟨T, B, R, M⟩ xs args) (hm : modeB T xs res = true) (him : imO T B R nm res = some (av, R')) (hN : okD X d = true) (h : RDk P X ops ks fuel (listed.setIfInBounds i true) ⟨(d, av) :: T, B, R', M⟩ Q) : RDo P X ops ks fuel listed i ⟨T, B, R, M⟩ Q := by
  intro ρ a w hs
  refine wpOp_step hi fun K' hK => ?_
  rw [if_pos (GOk.wanted (o := ⟨some d, .call ⟨.value (.func f), xs.toArray, tys⟩, ty, pos, af, g⟩) hs hg)]
  refine call_wp hF rfl rfl rfl hc hr hm (imO_eq him) hN hs fun ρ' v w' hb hs' => hK _ _ ⟨fun _ => hb, ?_⟩
  exact wpAnyK_mono (fun W hW => hb.trans (hW.mono hb.size)) _ _ _ _ (h ρ' _ w' hs')
theorem eff_wp {dd : Option Tmp} {o : Oper} {fr : Bool} {ρ : Rho} {a : Act} {w : World} {K : Act → World → Prop} {Q : Exit → Act → World → Prop} (he : Eff P X S dd o.op S1 fr) (hd : o.dst = dd) (hs : Sim X ρ S a w)
    (h : ∀ ρ' v w', Sim X ρ' S1 (a.put dd v) w' → (fr = true → Below w.heap.size w w') → K (a.put dd v) w') : Oper.wp P o a w K Q := by
  obtain ⟨od, oop, oty, opos, oaf, og⟩ := o
  simp only at he hd
  subst hd
  obtain ⟨ρ', nx, v, w', h1, h2, h3, h4⟩ := he ρ a w hs
  unfold Oper.wp
  rw [h1]
  rcases h2 with rfl | ⟨rfl, rfl⟩
  · exact h ρ' _ w' h3 h4
  · exact h ρ' _ w' h3 h4
/-- memory is made -/
theorem rdo_new {i : Nat} {dd : Option Tmp} (hi : ops[i]? = some ⟨dd, op, ty, pos, af, g⟩) (hg : GOk ops S.T g) (he : Eff P X S dd op S1 true) (h : RDk P X ops ks fuel (listed.setIfInBounds i true) S1 Q) : RDo P X ops ks fuel listed i S Q := by
  intro ρ a w hs
  refine wpOp_step hi fun K' hK => ?_
  rw [if_pos (GOk.wanted (o := ⟨dd, op, ty, pos, af, g⟩) hs hg)]
  refine eff_wp (P := P) (o := ⟨dd, op, ty, pos, af, g⟩) he rfl hs fun ρ' v w' hs' hb => hK _ _ ⟨fun _ => hb rfl, ?_⟩
  exact wpAnyK_mono (fun W hW => (hb rfl).trans (hW.mono (hb rfl).size)) _ _ _ _ (h ρ' _ w' hs')
/-- one of ks comes up -/
theorem rdo_brk {i : Nat} {dd : Option Tmp} {fr : Bool} (hi : ops[i]? = some ⟨dd, op, ty, pos, af, g⟩) (hu : unbroken ks (listed.setIfInBounds i true) = false) (hg : GOk ops S.T g) (he : Eff P X S dd op S1 fr) (h : RDb P X ops fuel (listed.setIfInBounds i true) S1 Q) : RDo P X ops ks fuel listed i S Q := by
  intro ρ a w hs
  refine wpOp_step hi fun K' hK => ?_
  rw [if_pos (GOk.wanted (o := ⟨dd, op, ty, pos, af, g⟩) hs hg)]
  refine eff_wp (P := P) (o := ⟨dd, op, ty, pos, af, g⟩) he rfl hs fun ρ' v w' hs' _ => hK _ _ ⟨fun h9 => absurd h9 (by rw [hu]; simp), K_of_held _ _ _ _ hu (h ρ' _ w' hs')⟩
theorem rdk_end (hr : Region.ready .any ops listed = []) (h : ∀ ρ a w, Sim X ρ S a w → Q a w) : RDk P X ops ks fuel listed S Q := by
  intro ρ a w hs
  cases fuel with
  | zero => exact ⟨hr, h ρ a w hs⟩
  | succ n => exact ⟨fun _ => h ρ a w hs, by rw [hr]; simp⟩
theorem rdb_end (hr : Region.ready .any ops listed = []) (h : ∀ ρ a w, Sim X ρ S a w → Q a w) : RDb P X ops fuel listed S Q := fun ρ a w hs => wpAnyH_done hr (h ρ a w hs) _
theorem rdk_endq {Q : Exit → Act → World → Prop} (hr : Region.ready .any ops listed = []) (h : EvE X .normal Q S) : RDk P X ops ks fuel listed S (Q .normal) := rdk_end hr h
theorem rdb_endq {Q : Exit → Act → World → Prop} (hr : Region.ready .any ops listed = []) (h : EvE X .normal Q S) : RDb P X ops fuel listed S (Q .normal) := rdb_end hr h
theorem rdb_fin (hr : Region.ready .any ops listed = []) : RDb P X ops fuel listed S (QS X S) := fun ρ a w hs => wpAnyH_done hr ⟨ρ, hs⟩ _
theorem rdb_le (σ : List (Nat × Nat)) (hr : Region.ready .any ops listed = []) (hl : Le σ S S') : RDb P X ops fuel listed S (QS X S') := fun ρ a w hs => wpAnyH_done hr ⟨_, hs.le hl⟩ _
theorem rdb_one (i : Nat) {o : Oper} (hi : ops[i]? = some o) (hr : Region.ready .any ops listed = [i]) (hg : GOk ops S.T o.guard)
    (h : ∀ ρ a w, Sim X ρ S a w → ∀ K : Act → World → Prop, (∀ a' w', wpAnyH P .any ops (QK Q) (fun _ => True) fuel (listed.setIfInBounds i true) a' w' → K a' w') → Oper.wp P o a w K (QK Q)) : RDb P X ops (fuel + 1) listed S Q := by
  intro ρ a w hs
  exact wpAnyH_ready hr (by simp) (AllReadyH.cons hi (fun K hK => by rw [if_pos (GOk.wanted hs hg)]; exact h ρ a w hs K (fun a w hr => hK a w trivial fun _ => hr)) AllReadyH.nil)
theorem rdb_eff (i : Nat) {dd : Option Tmp} {fr : Bool} (hi : ops[i]? = some ⟨dd, op, ty, pos, af, g⟩) (hr : Region.ready .any ops listed = [i]) (hg : GOk ops S.T g) (he : Eff P X S dd op S1 fr) (h : RDb P X ops fuel (listed.setIfInBounds i true) S1 Q) : RDb P X ops (fuel + 1) listed S Q :=
  rdb_one i hi hr hg fun ρ a w hs K hK => eff_wp (P := P) (o := ⟨dd, op, ty, pos, af, g⟩) he rfl hs fun ρ' v w' hs' _ => hK _ _ (h ρ' _ w' hs')
theorem rdb_q (i : Nat) (hi : ops[i]? = some ⟨some d, op, ty, pos, af, g⟩) (hr : Region.ready .any ops listed = [i]) (hg : GOk ops T g) (hq : Quiet P X ⟨T, B, R, M⟩ op av) (hN : okD X d = true) (h : RDb P X ops fuel (listed.setIfInBounds i true) ⟨(d, av) :: T, B, R, M⟩ Q) : RDb P X ops (fuel + 1) listed ⟨T, B, R, M⟩ Q :=
  rdb_one i hi hr hg fun ρ a w hs K hK => by
    obtain ⟨v, h1, h2⟩ := hq ρ a w hs
    unfold Oper.wp
    rw [h2 _ _ _ _ _ w (Below.refl _ _)]
    exact hK _ _ (h ρ _ w (hs.put hN h1))
def chkP (ops : Array Oper) (ks : List Nat) (listed : Array Bool) (i : Nat) : Bool :=
  Region.noSelect ops && (Region.free .any ops listed i && ((Region.ready .any ops listed).contains i && !ks.contains i))
/-- what yields the same in every world is taken first -/
theorem rdk_pure (i : Nat) (hi : ops[i]? = some ⟨some d, op, ty, pos, af, g⟩) (hc : chkP ops ks listed i = true) (hg : GOk ops T g) (hq : QuietW P X ⟨T, B, R, M⟩ op av) (hN : okD X d = true)
    (h : RDk P X ops ks fuel (listed.setIfInBounds i true) ⟨(d, av) :: T, B, R, M⟩ Q) : RDk P X ops ks (fuel + 1) listed ⟨T, B, R, M⟩ Q := by
  intro ρ a w hs
  simp only [chkP, Bool.and_eq_true, Bool.not_eq_true'] at hc
  obtain ⟨v, h1, h2⟩ := hq ρ a w hs
  exact wpAnyK_firstP hi (Region.noSelect_spec hc.1) (fun _ _ _ h => h) (by simpa using hc.2.2.2) fuel listed a w (Region.free_spec hi hc.2.1) (by simpa using hc.2.2.1)
    (.inl ⟨GOk.wanted hs hg, fun w' hw => h2 _ _ _ _ _ w'⟩) (fun _ => Below.refl _ _) (h ρ _ w (hs.put hN h1))
end
end Go.Proofs.YtphaggopgdbojaaGreat
