/- A region that draws its order: a condition on the world that holds until one of the operations ks has come up (an append, a store); until then each load may be taken first. -/
import Derived.Test.YtmjafclpeknpcaaTakeS
namespace Go.Proofs.Ytmjafclpeknpcaa
open Go.RowKit
section
variable {P : Program} {ops : Array Oper} {Q : Exit → Act → World → Prop} {S : World → Prop} {md : Region.Mode} {ks : List Nat}
def unbroken (ks : List Nat) (listed : Array Bool) : Bool := ks.all fun k => !listed.getD k true
def before (md : Region.Mode) (ops : Array Oper) : Nat → Nat → Nat → Bool
  | 0, _, _ => false
  | n + 1, k, i => match ops[k]? with
    | none => false
    | some o => o.after.any fun e => Region.binds md e && (e.on == i || before md ops n e.on i)
def closedB (md : Region.Mode) (ops : Array Oper) (listed : Array Bool) : Bool :=
  (List.range ops.size).all fun j => !listed.getD j true || match ops[j]? with
    | none => true
    | some o => o.after.all fun e => !Region.binds md e || listed.getD e.on true
def Closed (md : Region.Mode) (ops : Array Oper) (listed : Array Bool) : Prop :=
  ∀ j o, ops[j]? = some o → listed.getD j true = true → ∀ e ∈ o.after, Region.binds md e = true → listed.getD e.on true = true
theorem closed_of (listed : Array Bool) (h : closedB md ops listed = true) : Closed md ops listed := by
  intro j o hj hl e he hb
  have hlt : j < ops.size := (Array.getElem?_eq_some_iff.1 hj).1
  have h1 := List.all_eq_true.1 h j (List.mem_range.2 hlt)
  rw [hl, hj] at h1
  simp only [Bool.not_true, Bool.false_or, Array.all_eq_true_iff_forall_mem] at h1
  have h2 := h1 e he
  rw [hb] at h2
  simpa using h2
theorem listed_before {listed : Array Bool} (hc : Closed md ops listed) {i : Nat} : ∀ (n k : Nat), before md ops n k i = true →
    (∀ o, ops[k]? = some o → ∀ e ∈ o.after, Region.binds md e = true → listed.getD e.on true = true) → listed.getD i true = true
  | 0, _, h, _ => by simp [before] at h
  | n + 1, k, h, hk => by
    unfold before at h
    split at h
    · cases h
    · rename_i o ho
      obtain ⟨e, he, h2⟩ := Array.any_eq_true'.1 h
      simp only [Bool.and_eq_true, Bool.or_eq_true, beq_iff_eq] at h2
      obtain ⟨hb, h3⟩ := h2
      have h4 := hk o ho e he hb
      rcases h3 with rfl | h3
      · exact h4
      · exact listed_before hc n e.on h3 fun o' ho' => hc e.on o' ho' h4
theorem unbroken_at {listed : Array Bool} (h : unbroken ks listed = true) {k : Nat} (hk : k ∈ ks) : listed.getD k true = false := by
  have := List.all_eq_true.1 h k hk
  simpa using this
theorem unbroken_of {listed : Array Bool} (h : ∀ k ∈ ks, listed.getD k true = false) : unbroken ks listed = true :=
  List.all_eq_true.2 fun k hk => by rw [h k hk]; rfl
/-- whatever order is picked from here on; S holds until one of ks has come up -/
def wpAnyK (P : Program) (md : Region.Mode) (ops : Array Oper) (Q : Exit → Act → World → Prop) (ks : List Nat) (S : World → Prop) : Nat → Array Bool → Act → World → Prop
  | 0, listed, a, w => Region.ready md ops listed = [] ∧ Q .normal a w
  | fuel + 1, listed, a, w =>
    (Region.ready md ops listed = [] → Q .normal a w) ∧
    ∀ i ∈ Region.ready md ops listed, wpOp P ops Q i (fun a' w' => (unbroken ks (listed.setIfInBounds i true) = true → S w') ∧ wpAnyK P md ops Q ks S fuel (listed.setIfInBounds i true) a' w') a w
theorem wpAny_of_K : ∀ (fuel : Nat) (listed : Array Bool) (a : Act) (w : World), wpAnyK P md ops Q ks S fuel listed a w → wpAny P md ops Q fuel listed a w
  | 0, _, _, _, h => h
  | fuel + 1, _, _, _, h => ⟨h.1, fun i hi => wpOp_mono (fun a' w' h' => wpAny_of_K fuel _ a' w' h'.2) (h.2 i hi)⟩
theorem getD_set_true {listed : Array Bool} {i j : Nat} (h : listed.getD i true = true) : (listed.setIfInBounds j true).getD i true = true := by
  by_cases hij : j = i
  · subst hij
    by_cases hlt : j < listed.size
    · simp [hlt]
    · simp [hlt]
  · rw [getD_set_ne true hij]; exact h
theorem broken_more {listed : Array Bool} (i : Nat) (h : unbroken ks listed = false) : unbroken ks (listed.setIfInBounds i true) = false := by
  unfold unbroken at *
  rw [List.all_eq_false] at *
  obtain ⟨k, hk, h2⟩ := h
  refine ⟨k, hk, ?_⟩
  have h3 : listed.getD k true = true := by simpa using h2
  rw [getD_set_true h3]; simp
theorem K_of_held : ∀ (fuel : Nat) (listed : Array Bool) (a : Act) (w : World), unbroken ks listed = false → wpAnyH P md ops Q (fun _ => True) fuel listed a w → wpAnyK P md ops Q ks S fuel listed a w
  | 0, _, _, _, _, h => h
  | fuel + 1, listed, _, _, hu, h => ⟨h.1, fun i hi => wpOp_mono (fun a' w' h' => ⟨fun h9 => absurd h9 (by rw [broken_more i hu]; simp), K_of_held fuel _ a' w' (broken_more i hu) h'.2⟩) (h.2 i hi)⟩
theorem wpAnyK_first {i : Nat} {oi : Oper} {v : Value} (hi : ops[i]? = some oi) (hsel : ∀ (j : Nat) (o : Oper) cs b, ops[j]? = some o → o.op ≠ .select cs b)
    (hQ : ∀ c a w, Q (.panic c) (a.put oi.dst v) w → Q (.panic c) a w) (hbef : ∀ k ∈ ks, before md ops ops.size k i = true) :
    ∀ (fuel : Nat) (listed : Array Bool) (a : Act) (w : World),
      (∀ j oj, ops[j]? = some oj → j ≠ i → listed.getD j true = false → (∀ e ∈ oj.after, Region.binds md e = true → e.on ≠ i) → oi.apart ops oj = true) → Closed md ops listed → unbroken ks listed = true →
      i ∈ Region.ready md ops listed → YieldsIf P ops S oi v a → S w →
      wpAnyK P md ops Q ks S fuel (listed.setIfInBounds i true) (a.put oi.dst v) w → wpAnyK P md ops Q ks S (fuel + 1) listed a w := by
  intro fuel
  induction fuel with
  | zero =>
    intro listed a w _ _ hu hr hy hS H
    refine ⟨fun h => (by rw [h] at hr; cases hr), fun j hj => ?_⟩
    by_cases hji : j = i
    · subst hji; exact hy.wpOp hi hS ⟨fun _ => hS, H⟩
    · have := ready_mono hj hji
      rw [H.1] at this
      cases this
  | succ fuel ih =>
    intro listed a w hfree hcl hu hr hy hS H
    refine ⟨fun h => (by rw [h] at hr; cases hr), fun j hj => ?_⟩
    by_cases hji : j = i
    · subst hji; exact hy.wpOp hi hS ⟨fun _ => hS, H⟩
    · have h1 := H.2 j (ready_mono hj hji)
      obtain ⟨hiun, oi', hoi', halli⟩ := mem_ready.1 hr
      have hiun' : listed.getD i true = false := hiun
      obtain ⟨hjun, oj, hoj, hall⟩ := mem_ready.1 hj
      have hik : i ∉ ks := fun hk => by
        have := listed_before hcl _ _ (hbef i hk) (fun o ho e he hb => by
          rw [hoi'] at ho; cases ho
          have := halli e he hb
          rcases Nat.lt_or_ge e.on listed.size with h' | h'
          · simp [h'] at this ⊢; exact this
          · simp [Array.getElem?_eq_none h'])
        rw [hiun'] at this; cases this
      have hjk : j ∉ ks := fun hk => by
        have := listed_before hcl _ _ (hbef j hk) (fun o ho e he hb => by
          rw [hoj] at ho; cases ho
          have := hall e he hb
          rcases Nat.lt_or_ge e.on listed.size with h' | h'
          · simp [h'] at this ⊢; exact this
          · simp [Array.getElem?_eq_none h'])
        rw [hiun'] at this; cases this
      have hnot : ∀ e ∈ oj.after, Region.binds md e = true → e.on ≠ i := fun e he hb heq => by
        have h1 := hall e he hb
        have h0 := (mem_ready.1 hr).1
        rw [heq] at h1
        rcases Nat.lt_or_ge i listed.size with h' | h'
        · simp [h'] at h0 h1; rw [h0] at h1; cases h1
        · simp [Array.getElem?_eq_none h'] at h1
      have h2 := wpOp_putIf hoj (hfree j oj hoj hji hjun hnot) (fun cs b => hsel i oi cs b hi) (fun cs b => hsel j oj cs b hoj) hQ hy h1
      have hfree' : ∀ k ok, ops[k]? = some ok → k ≠ i → (listed.setIfInBounds j true).getD k true = false →
          (∀ e ∈ ok.after, Region.binds md e = true → e.on ≠ i) → oi.apart ops ok = true := fun k ok hk hki hun hno => by
        refine hfree k ok hk hki ?_ hno
        by_cases hjk : j = k
        · subst hjk; exact hjun
        · rw [getD_set_ne true hjk] at hun; exact hun
      have hcl' : Closed md ops (listed.setIfInBounds j true) := fun k o hk hl e he hb => by
        by_cases hjk : j = k
        · subst hjk
          rw [hoj] at hk; cases hk
          have := hall e he hb
          refine getD_set_true ?_
          rcases Nat.lt_or_ge e.on listed.size with h' | h'
          · simp [h'] at this ⊢; exact this
          · simp [Array.getElem?_eq_none h']
        · rw [getD_set_ne true hjk] at hl
          exact getD_set_true (hcl k o hk hl e he hb)
      have hu' : unbroken ks (listed.setIfInBounds j true) = true := unbroken_of fun k hk => by
        rw [getD_set_ne true (fun e : j = k => hjk (by rw [e]; exact hk))]
        exact unbroken_at hu hk
      have hu2 : unbroken ks ((listed.setIfInBounds i true).setIfInBounds j true) = true := unbroken_of fun k hk => by
        rw [getD_set_ne true (fun e : j = k => hjk (by rw [e]; exact hk)), getD_set_ne true (fun e : i = k => hik (by rw [e]; exact hk))]
        exact unbroken_at hu hk
      refine wpOp_mono (fun a' w' h3 => ⟨fun _ => h3.2.1 hu2, ih (listed.setIfInBounds j true) a' w' hfree' hcl' hu' (ready_mono hr (Ne.symm hji)) h3.1 (h3.2.1 hu2) ?_⟩) h2
      rw [Array.setIfInBounds_comm _ _ hji]
      exact h3.2.2
/-- what is left of a region when some operations have come up; none of ks -/
def RestK (P : Program) (ops : Array Oper) (Q : Exit → Act → World → Prop) (ks : List Nat) (S : World → Prop) (fuel : Nat) (listed : Array Bool) (a : Act) (w : World) : Prop :=
  S w → wpAnyK P .any ops Q ks S fuel listed a w
/-- the condition: nothing that lies there at the region's head has changed -/
theorem restK_begin (ks : List Nat) {id : Nat} {a : Act} {w : World} (hm : P.follows .mixedOrders = true) (h : RestK P ops Q ks (fun W => Below w.heap.size w W) ops.size (Array.replicate ops.size false) a w.drew) : (Code.region id ops true).wp P Q a w :=
  wp_region_any hm (wpAny_of_K _ _ _ _ (h (Below.refl _ _).drew))
theorem restK_take (i : Nat) {d : Tmp} {op : Op} {ty : TypeId} {pos : String} {af : Array Edge} {g : Option (Nat × Bool)} {fuel : Nat} {listed : Array Bool} {a : Act} {w : World} {v : Value}
    (hi : ops[i]? = some ⟨some d, op, ty, pos, af, g⟩) (hs : Region.noSelect ops = true) (hf : Region.free .any ops listed i = true) (hr : (Region.ready .any ops listed).contains i = true)
    (hb : (ks.all fun k => before .any ops ops.size k i) = true) (hc : closedB .any ops listed = true) (hu : unbroken ks listed = true)
    (hQ : ∀ c a w, Q (.panic c) (a.put (some d) v) w → Q (.panic c) a w) (hw : Region.wanted ⟨some d, op, ty, pos, af, g⟩ (yielded ops a.tmps) = true)
    (hy : ∀ w', S w' → (execOp a.eval ⟨some d, op, ty, pos, af, g⟩).run P w' = .ok (.value v) w')
    (h : RestK P ops Q ks S fuel (listed.setIfInBounds i true) (a.put (some d) v) w) : RestK P ops Q ks S (fuel + 1) listed a w :=
  fun hS => wpAnyK_first hi (Region.noSelect_spec hs) hQ (fun k hk => List.all_eq_true.1 hb k hk) fuel listed a w (Region.free_spec hi hf) (closed_of _ hc) hu (by simpa using hr) (.inl ⟨hw, hy⟩) hS (h hS)
theorem restK_skip (i : Nat) {d : Tmp} {op : Op} {ty : TypeId} {pos : String} {af : Array Edge} {g : Option (Nat × Bool)} {fuel : Nat} {listed : Array Bool} {a : Act} {w : World}
    (hi : ops[i]? = some ⟨some d, op, ty, pos, af, g⟩) (hs : Region.noSelect ops = true) (hf : Region.free .any ops listed i = true) (hr : (Region.ready .any ops listed).contains i = true)
    (hb : (ks.all fun k => before .any ops ops.size k i) = true) (hc : closedB .any ops listed = true) (hu : unbroken ks listed = true)
    (hQ : ∀ c a w, Q (.panic c) (a.put (some d) undef) w → Q (.panic c) a w) (hw : Region.wanted ⟨some d, op, ty, pos, af, g⟩ (yielded ops a.tmps) = false)
    (h : RestK P ops Q ks S fuel (listed.setIfInBounds i true) (a.put (some d) undef) w) : RestK P ops Q ks S (fuel + 1) listed a w :=
  fun hS => wpAnyK_first hi (Region.noSelect_spec hs) hQ (fun k hk => List.all_eq_true.1 hb k hk) fuel listed a w (Region.free_spec hi hf) (closed_of _ hc) hu (by simpa using hr) (.inr ⟨hw, rfl⟩) hS (h hS)
theorem wpAnyK_one (i : Nat) {o : Oper} {fuel : Nat} {listed : Array Bool} {a : Act} {w : World} (hi : ops[i]? = some o) (hr : Region.ready .any ops listed = [i]) (hw : Region.wanted o (yielded ops a.tmps) = true)
    (h : ∀ K' : Act → World → Prop, (∀ a w, (unbroken ks (listed.setIfInBounds i true) = true → S w) ∧ wpAnyK P .any ops Q ks S fuel (listed.setIfInBounds i true) a w → K' a w) → Oper.wp P o a w K' Q) : wpAnyK P .any ops Q ks S (fuel + 1) listed a w := by
  refine ⟨fun h0 => absurd h0 (by rw [hr]; simp), fun j hj => ?_⟩
  rw [hr] at hj
  obtain rfl := List.mem_singleton.1 hj
  exact wpOp_step hi (fun K' hK => by rw [if_pos hw]; exact h K' hK)
theorem restK_alone (i : Nat) {d : Option Tmp} {op : Op} {ty : TypeId} {pos : String} {af : Array Edge} {g : Option (Nat × Bool)} {fuel : Nat} {listed : Array Bool} {a : Act} {w : World}
    (hi : ops[i]? = some ⟨d, op, ty, pos, af, g⟩) (hr : Region.ready .any ops listed = [i]) (hw : Region.wanted ⟨d, op, ty, pos, af, g⟩ (yielded ops a.tmps) = true)
    (h : S w → ∀ K' : Act → World → Prop, Shut (∀ a w, S w → RestK P ops Q ks S fuel (listed.setIfInBounds i true) a w → K' a w) → Oper.wp P ⟨d, op, ty, pos, af, g⟩ a w K' Q) : RestK P ops Q ks S (fuel + 1) listed a w :=
  fun hS => wpAnyK_one i hi hr hw fun K' hK => h hS K' fun a w hs hr => hK a w ⟨fun _ => hs, hr hs⟩
/-- one of ks comes up: from here on no condition holds -/
theorem restK_break (i : Nat) {d : Option Tmp} {op : Op} {ty : TypeId} {pos : String} {af : Array Edge} {g : Option (Nat × Bool)} {fuel : Nat} {listed : Array Bool} {a : Act} {w : World}
    (hi : ops[i]? = some ⟨d, op, ty, pos, af, g⟩) (hr : Region.ready .any ops listed = [i]) (hw : Region.wanted ⟨d, op, ty, pos, af, g⟩ (yielded ops a.tmps) = true) (hu : unbroken ks (listed.setIfInBounds i true) = false)
    (h : S w → ∀ K' : Act → World → Prop, Shut (∀ a w, True → Rest P ops Q fuel (listed.setIfInBounds i true) a w → K' a w) → Oper.wp P ⟨d, op, ty, pos, af, g⟩ a w K' Q) : RestK P ops Q ks S (fuel + 1) listed a w :=
  fun hS => wpAnyK_one i hi hr hw fun K' hK => h hS K' fun a w _ hr => hK a w ⟨fun h9 => absurd h9 (by rw [hu]; simp), K_of_held _ _ _ _ hu hr⟩
theorem rest_alone' (i : Nat) {d : Option Tmp} {op : Op} {ty : TypeId} {pos : String} {af : Array Edge} {g : Option (Nat × Bool)} {fuel : Nat} {listed : Array Bool} {a : Act} {w : World}
    (hi : ops[i]? = some ⟨d, op, ty, pos, af, g⟩) (hr : Region.ready .any ops listed = [i]) (hw : Region.wanted ⟨d, op, ty, pos, af, g⟩ (yielded ops a.tmps) = true)
    (h : ∀ K' : Act → World → Prop, Shut (∀ a w, True → Rest P ops Q fuel (listed.setIfInBounds i true) a w → K' a w) → Oper.wp P ⟨d, op, ty, pos, af, g⟩ a w K' Q) : Rest P ops Q (fuel + 1) listed a w :=
  rest_alone i hi hr hw fun K' hK => h K' fun a w _ hr => hK a w hr
theorem wpAnyK_two (i j : Nat) {o p : Oper} {fuel : Nat} {listed : Array Bool} {a : Act} {w : World} (hi : ops[i]? = some o) (hj : ops[j]? = some p) (hr : Region.ready .any ops listed = [i, j]) (hw : Region.wanted o (yielded ops a.tmps) = true) (hw2 : Region.wanted p (yielded ops a.tmps) = true)
    (h : ∀ K' : Act → World → Prop, (∀ a w, (unbroken ks (listed.setIfInBounds i true) = true → S w) ∧ wpAnyK P .any ops Q ks S fuel (listed.setIfInBounds i true) a w → K' a w) → Oper.wp P o a w K' Q)
    (h2 : ∀ K' : Act → World → Prop, (∀ a w, (unbroken ks (listed.setIfInBounds j true) = true → S w) ∧ wpAnyK P .any ops Q ks S fuel (listed.setIfInBounds j true) a w → K' a w) → Oper.wp P p a w K' Q) : wpAnyK P .any ops Q ks S (fuel + 1) listed a w := by
  refine ⟨fun h0 => absurd h0 (by rw [hr]; simp), fun q hq => ?_⟩
  rw [hr] at hq
  rcases List.mem_cons.1 hq with rfl | hq
  · exact wpOp_step hi (fun K' hK => by rw [if_pos hw]; exact h K' hK)
  · obtain rfl := List.mem_singleton.1 hq
    exact wpOp_step hj (fun K' hK => by rw [if_pos hw2]; exact h2 K' hK)
theorem restK_two (i j : Nat) {d1 d2 : Option Tmp} {op1 op2 : Op} {ty1 ty2 : TypeId} {pos1 pos2 : String} {af1 af2 : Array Edge} {g1 g2 : Option (Nat × Bool)} {fuel : Nat} {listed : Array Bool} {a : Act} {w : World}
    (hi : ops[i]? = some ⟨d1, op1, ty1, pos1, af1, g1⟩) (hj : ops[j]? = some ⟨d2, op2, ty2, pos2, af2, g2⟩) (hr : Region.ready .any ops listed = [i, j]) (hwi : Region.wanted ⟨d1, op1, ty1, pos1, af1, g1⟩ (yielded ops a.tmps) = true) (hwj : Region.wanted ⟨d2, op2, ty2, pos2, af2, g2⟩ (yielded ops a.tmps) = true)
    (h1 : S w → ∀ K' : Act → World → Prop, Shut (∀ a w, S w → RestK P ops Q ks S fuel (listed.setIfInBounds i true) a w → K' a w) → Oper.wp P ⟨d1, op1, ty1, pos1, af1, g1⟩ a w K' Q)
    (h2 : S w → ∀ K' : Act → World → Prop, Shut (∀ a w, S w → RestK P ops Q ks S fuel (listed.setIfInBounds j true) a w → K' a w) → Oper.wp P ⟨d2, op2, ty2, pos2, af2, g2⟩ a w K' Q) : RestK P ops Q ks S (fuel + 1) listed a w :=
  fun hS => wpAnyK_two i j hi hj hr hwi hwj (fun K' hK => h1 hS K' fun a w hs hr => hK a w ⟨fun _ => hs, hr hs⟩) (fun K' hK => h2 hS K' fun a w hs hr => hK a w ⟨fun _ => hs, hr hs⟩)
theorem restK_done {fuel : Nat} {listed : Array Bool} {a : Act} {w : World} (hr : Region.ready .any ops listed = []) (h : S w → Q .normal a w) : RestK P ops Q ks S fuel listed a w := by
  intro hS
  cases fuel with
  | zero => exact ⟨hr, h hS⟩
  | succ n => exact ⟨fun _ => h hS, by rw [hr]; simp⟩
end
end Go.Proofs.Ytmjafclpeknpcaa
