/- Walks of functions of the program, printed by a program of the prover. -/
import Derived.Test.YtpbhcdgdabfhfaaGreatLoF32
import Derived.Test.YtpbhcdgdabfhfaaGreatLoVW
namespace Go.Proofs.YtpbhcdgdabfhfaaGreat
open Go.ChangeShapes Go.WideShapes Go.ChangeAt Go.RowKit
set_option linter.unusedVariables false
set_option linter.unusedSimpArgs false
set_option maxHeartbeats 1000000
set_option maxRecDepth 100000
attribute [local irreducible] EvL Ev EvE Quiet Eff Pure RDk RDb RDo
def eMark (e : Entry) : Mark := ⟨e.client, e.seq, e.index⟩
def insF (l : List Mark) (m : Mark) : List Mark := l.filter (fun x => decide (x.client < m.client)) ++ m :: l.filter (fun x => decide (m.client < x.client))
structure SOk (l : List Mark) : Prop where
  ok : ∀ m ∈ l, markOk m = true
  srt : l.Pairwise fun a b => a.client < b.client
  ix : l.Pairwise fun a b => a.index ≠ b.index
theorem sok_of {l : List Mark} (h : seenOk l = true) : SOk l := by
  have hs := seenOk_iff.1 h
  have hst : ∀ k (hk : k < l.length), markOk l[k] = true ∧ hasIx (l.take k) l[k].index = false ∧ overB l k l[k] = true := fun k hk => by
    have := hs k hk
    rw [step_at hk] at this
    simpa [Bool.and_eq_true] using this
  refine ⟨fun m hm => ?_, List.pairwise_iff_getElem.2 fun i j hi hj hij => ?_, List.pairwise_iff_getElem.2 fun i j hi hj hij e => ?_⟩
  · obtain ⟨k, hk, rfl⟩ := List.mem_iff_getElem.1 hm
    exact (hst k hk).1
  · induction j with
    | zero => omega
    | succ j ih =>
      have h1 := (hst (j + 1) hj).2.2
      simp only [overB, List.getElem?_eq_getElem (show j < l.length by omega), decide_eq_true_eq] at h1
      rcases Nat.lt_or_ge i j with h2 | h2
      · have := ih (by omega) h2
        omega
      · have : i = j := by omega
        subst this
        exact h1
  · have h1 := has_at hj hij e
    rw [(hst j hj).2.1] at h1
    cases h1
theorem of_sok {l : List Mark} (h : SOk l) : seenOk l = true := by
  refine seenOk_iff.2 fun k hk => ?_
  rw [step_at hk]
  have h1 := h.ok _ (List.getElem_mem hk)
  have h2 : hasIx (l.take k) l[k].index = false := by
    unfold hasIx
    rw [List.any_eq_false]
    intro m hm
    obtain ⟨j, hj, rfl⟩ := List.mem_iff_getElem.1 hm
    rw [List.getElem_take]
    have hj2 : j < k := by rw [List.length_take] at hj; omega
    simpa using List.pairwise_iff_getElem.1 h.ix j k (by omega) hk hj2
  have h3 : overB l k l[k] = true := by
    cases k with
    | zero => rfl
    | succ j =>
      simp only [overB, List.getElem?_eq_getElem (show j < l.length by omega), decide_eq_true_eq]
      exact List.pairwise_iff_getElem.1 h.srt j (j + 1) (by omega) hk (by omega)
  simp [h1, h2, h3]
theorem mem_ins {l : List Mark} {m x : Mark} : x ∈ insF l m ↔ x = m ∨ (x ∈ l ∧ x.client ≠ m.client) := by
  simp only [insF, List.mem_append, List.mem_cons, List.mem_filter, decide_eq_true_eq]
  constructor
  · rintro (⟨h1, h2⟩ | h | ⟨h1, h2⟩)
    · exact .inr ⟨h1, by omega⟩
    · exact .inl h
    · exact .inr ⟨h1, by omega⟩
  · rintro (h | ⟨h1, h2⟩)
    · exact .inr (.inl h)
    · rcases Int.lt_or_gt_of_ne h2 with h3 | h3
      · exact .inl ⟨h1, h3⟩
      · exact .inr (.inr ⟨h1, h3⟩)
theorem SOk.ins {l : List Mark} {m : Mark} (h : SOk l) (hm : markOk m = true) (hi : ∀ x ∈ l, x.index ≠ m.index) : SOk (insF l m) := by
  refine ⟨fun x hx => ?_, ?_, ?_⟩
  · rcases mem_ins.1 hx with rfl | ⟨h1, _⟩
    · exact hm
    · exact h.ok x h1
  · unfold insF
    refine List.pairwise_append.2 ⟨h.srt.filter _, List.pairwise_cons.2 ⟨fun a ha => ?_, h.srt.filter _⟩, fun a ha b hb => ?_⟩
    · simp only [List.mem_filter, decide_eq_true_eq] at ha; exact ha.2
    · simp only [List.mem_cons, List.mem_filter, decide_eq_true_eq] at ha hb
      rcases hb with rfl | hb
      · exact ha.2
      · omega
  · unfold insF
    refine List.pairwise_append.2 ⟨h.ix.filter _, List.pairwise_cons.2 ⟨fun a ha => ?_, h.ix.filter _⟩, fun a ha b hb => ?_⟩
    · simp only [List.mem_filter] at ha; exact fun e => hi a ha.1 e.symm
    · simp only [List.mem_cons, List.mem_filter, decide_eq_true_eq] at ha hb
      rcases hb with rfl | hb
      · exact hi a ha.1
      · have key : ∀ {l : List Mark}, l.Pairwise (fun a b => a.client < b.client) → l.Pairwise (fun a b => a.index ≠ b.index) → ∀ a ∈ l, ∀ b ∈ l, a.client < b.client → a.index ≠ b.index := by
          intro l
          induction l with
          | nil => intro _ _ a ha; simp at ha
          | cons y l ih =>
            intro h1 h2 a ha b hb hab
            rw [List.pairwise_cons] at h1 h2
            rcases List.mem_cons.1 ha with e1 | ha'
            · rcases List.mem_cons.1 hb with e2 | hb'
              · rw [e1, e2] at hab; omega
              · rw [e1]; exact h2.1 b hb'
            · rcases List.mem_cons.1 hb with e2 | hb'
              · have := h1.1 a ha'; rw [e2] at hab; omega
              · exact ih h1.2 h2.2 a ha' b hb' hab
        exact key h.srt h.ix a ha.1 b hb.1 (by omega)
theorem lastF_le {l : List Mark} {b : Int} : lastF l ≤ b ↔ 0 ≤ b ∧ ∀ x ∈ l, x.index ≤ b := by
  have key : ∀ (l : List Mark) (s : Int), l.foldl (fun s m => max s m.index) s ≤ b ↔ s ≤ b ∧ ∀ x ∈ l, x.index ≤ b := by
    intro l
    induction l with
    | nil => intro s; simp
    | cons a l ih =>
      intro s
      rw [List.foldl_cons, ih]
      simp only [List.mem_cons, forall_eq_or_imp]
      constructor
      · rintro ⟨h1, h2⟩; exact ⟨by omega, by omega, h2⟩
      · rintro ⟨h1, h2, h3⟩; exact ⟨by omega, h3⟩
  exact key l 0
theorem last_ins {l : List Mark} {m : Mark} (h : lastF l < m.index) : lastF (insF l m) = m.index := by
  have h0 := (lastF_le (l := l)).1 (Int.le_refl _)
  have h1 : lastF (insF l m) ≤ m.index := lastF_le.2 ⟨by omega, fun x hx => by
    rcases mem_ins.1 hx with rfl | ⟨h1, _⟩
    · exact Int.le_refl _
    · have := h0.2 x h1; omega⟩
  have h2 := (lastF_le.1 (Int.le_refl (lastF (insF l m)))).2 m (mem_ins.2 (.inl rfl))
  omega
theorem find_filter {α : Type} {p q : α → Bool} : ∀ {l : List α}, (l.filter p).find? q = l.find? fun x => p x && q x
  | [] => rfl
  | a :: l => by
    cases hp : p a
    · rw [List.filter_cons_of_neg (by simp [hp]), List.find?_cons_of_neg (by simp [hp]), find_filter]
    · rw [List.filter_cons_of_pos hp, List.find?_cons, List.find?_cons, find_filter]
      simp [hp]
theorem find_ins {l : List Mark} {m : Mark} {q : Int} : (insF l m).find? (fun x => decide (x.client = q)) = if q = m.client then some m else l.find? fun x => decide (x.client = q) := by
  unfold insF
  rw [List.find?_append, find_filter, List.find?_cons, find_filter]
  by_cases h : q = m.client
  · subst h
    rw [if_pos rfl, List.find?_eq_none.2 (by intro x _; simp; omega)]
    simp
  · rw [if_neg h]
    have hm : decide (m.client = q) = false := decide_eq_false fun e => h e.symm
    rw [hm]
    rcases Int.lt_or_gt_of_ne h with h2 | h2
    · have e1 : (fun x : Mark => decide (x.client < m.client) && decide (x.client = q)) = fun x => decide (x.client = q) := by
        funext x
        by_cases hx : x.client = q
        · simp [hx, h2]
        · simp [hx]
      have e2 : l.find? (fun x : Mark => decide (m.client < x.client) && decide (x.client = q)) = none := List.find?_eq_none.2 (by intro x _; simp; omega)
      rw [e1, e2]
      simp
    · have e1 : (fun x : Mark => decide (m.client < x.client) && decide (x.client = q)) = fun x => decide (x.client = q) := by
        funext x
        by_cases hx : x.client = q
        · simp [hx, h2]
        · simp [hx]
      have e2 : l.find? (fun x : Mark => decide (x.client < m.client) && decide (x.client = q)) = none := List.find?_eq_none.2 (by intro x _; simp; omega)
      rw [e1, e2]
      simp
theorem filter_up {l : List Mark} (h : l.Pairwise fun a b => a.client < b.client) (c : Int) : l.filter (fun x => decide (x.client < c + 1)) = l.filter (fun x => decide (x.client < c)) ++ (l.find? fun x => decide (x.client = c)).toList := by
  induction l with
  | nil => rfl
  | cons a l ih =>
    rw [List.pairwise_cons] at h
    have hn : ∀ d, d ≤ a.client → l.filter (fun x => decide (x.client < d)) = [] := fun d hd => List.filter_eq_nil_iff.2 fun x hx => by have := h.1 x hx; simp; omega
    rcases Int.lt_trichotomy a.client c with h1 | h1 | h1
    · rw [List.filter_cons_of_pos (by simp; omega), List.filter_cons_of_pos (by simpa using h1), List.find?_cons_of_neg (by simp; omega), ih h.2]
      rfl
    · rw [List.filter_cons_of_pos (by simp; omega), List.filter_cons_of_neg (by simp; omega), List.find?_cons_of_pos (by simpa using h1), hn c (by omega)]
      have : l.filter (fun x => decide (x.client < c + 1)) = [] := List.filter_eq_nil_iff.2 fun x hx => by have := h.1 x hx; simp; omega
      rw [this]; rfl
    · rw [List.filter_cons_of_neg (by simp; omega), List.filter_cons_of_neg (by simp; omega), List.find?_cons_of_neg (by simp; omega), hn c (by omega), hn (c + 1) (by omega)]
      have : l.find? (fun x => decide (x.client = c)) = none := List.find?_eq_none.2 fun x hx => by have := h.1 x hx; simp; omega
      rw [this]; rfl
def outF (l : List Mark) (k : Nat) : List Mark := l.filter fun x => decide (x.client < 2 + (k : Int))
theorem outF_next {l : List Mark} (h : SOk l) (k : Nat) : outF l (k + 1) = outF l k ++ (l.find? fun x => decide (x.client = 2 + (k : Int))).toList := by
  unfold outF
  rw [← filter_up h.srt, show (2 : Int) + (k + 1 : Nat) = 2 + k + 1 by omega]
theorem mark_bd {m : Mark} (h : markOk m = true) : 2 ≤ m.client ∧ m.client ≤ 5 := by
  simp only [markOk, askerOk, inB, Bool.and_eq_true, decide_eq_true_eq] at h
  omega
theorem outF_zero {l : List Mark} (h : SOk l) : outF l 0 = [] := List.filter_eq_nil_iff.2 fun x hx => by have := mark_bd (h.ok x hx); simp; omega
theorem outF_all {l : List Mark} (h : SOk l) : outF l 4 = l := List.filter_eq_self.2 fun x hx => by have := mark_bd (h.ok x hx); simp; omega
/-- the loop that sets a mark -/
def mkInv (l : List Mark) (m : Mark) (k : Nat) (o : List Mark) (dn : Bool) : Prop :=
  if dn then o = insF (l.take k) m ∧ ∃ x ∈ l.take k, m.client ≤ x.client else o = l.take k ∧ ∀ x ∈ l.take k, x.client < m.client
theorem mkInv0 {l : List Mark} {m : Mark} : mkInv l m 0 [] false := ⟨by simp, by simp⟩
theorem ins_snoc {l : List Mark} {m x : Mark} (h : m.client < x.client) : insF (l ++ [x]) m = insF l m ++ [x] := by
  simp [insF, List.filter_append, h, show ¬ x.client < m.client by omega]
theorem ins_same {l : List Mark} {m x : Mark} (h : m.client = x.client) : insF (l ++ [x]) m = insF l m := by
  simp [insF, List.filter_append, h]
theorem ins_all {l : List Mark} {m : Mark} (h : ∀ x ∈ l, x.client < m.client) : insF l m = l ++ [m] := by
  unfold insF
  rw [List.filter_eq_self.2 (by simpa using h), List.filter_eq_nil_iff.2 (by intro x hx; have := h x hx; simp; omega)]
theorem mkInv1 {l : List Mark} {m : Mark} {k : Nat} {o : List Mark} (hk : k < l.length) (h : mkInv l m k o false) (h1 : l[k].client ≥ m.client) (h2 : l[k].client ≠ m.client) : mkInv l m (k + 1) (o ++ [m] ++ [l[k]]) true := by
  obtain ⟨rfl, h3⟩ := h
  refine ⟨?_, l[k], ?_, h1⟩
  · rw [List.take_succ_eq_append_getElem hk, ins_snoc (by omega), ins_all h3]
  · rw [List.take_succ_eq_append_getElem hk]; exact List.mem_append_right _ (List.mem_singleton.2 rfl)
theorem mkInv2 {l : List Mark} {m : Mark} {k : Nat} {o : List Mark} (hk : k < l.length) (h : mkInv l m k o false) (h2 : l[k].client = m.client) : mkInv l m (k + 1) (o ++ [m]) true := by
  obtain ⟨rfl, h3⟩ := h
  refine ⟨?_, l[k], ?_, by omega⟩
  · rw [List.take_succ_eq_append_getElem hk, ins_same h2.symm, ins_all h3]
  · rw [List.take_succ_eq_append_getElem hk]; exact List.mem_append_right _ (List.mem_singleton.2 rfl)
theorem mk_over {l : List Mark} {m : Mark} {k : Nat} {o : List Mark} (hs : SOk l) (hk : k < l.length) (h : mkInv l m k o true) : m.client < l[k].client := by
  obtain ⟨_, x, hx, h1⟩ := h
  obtain ⟨j, hj, rfl⟩ := List.mem_iff_getElem.1 hx
  rw [List.getElem_take] at h1
  have hj2 : j < k := by rw [List.length_take] at hj; omega
  have := List.pairwise_iff_getElem.1 hs.srt j k (by omega) hk hj2
  omega
theorem mkInv3 {l : List Mark} {m : Mark} {k : Nat} {o : List Mark} (hs : SOk l) (hk : k < l.length) (h : mkInv l m k o true) : mkInv l m (k + 1) (o ++ [l[k]]) true := by
  have h0 := mk_over hs hk h
  obtain ⟨rfl, x, hx, h1⟩ := h
  refine ⟨?_, x, ?_, h1⟩
  · rw [List.take_succ_eq_append_getElem hk, ins_snoc h0]
  · rw [List.take_succ_eq_append_getElem hk]; exact List.mem_append_left _ hx
theorem mkInv4 {l : List Mark} {m : Mark} {k : Nat} {o : List Mark} (hk : k < l.length) (h : mkInv l m k o false) (h1 : l[k].client < m.client) : mkInv l m (k + 1) (o ++ [l[k]]) false := by
  obtain ⟨rfl, h3⟩ := h
  refine ⟨(List.take_succ_eq_append_getElem hk).symm, fun x hx => ?_⟩
  rw [List.take_succ_eq_append_getElem hk] at hx
  rcases List.mem_append.1 hx with hx | hx
  · exact h3 x hx
  · rw [List.mem_singleton.1 hx]; exact h1
theorem mkEnd1 {l : List Mark} {m : Mark} {k : Nat} {o : List Mark} (hk : ¬ k < l.length) (h : mkInv l m k o true) : o = insF l m := by
  have := h.1
  rwa [List.take_of_length_le (by omega)] at this
theorem mkEnd2 {l : List Mark} {m : Mark} {k : Nat} {o : List Mark} (hk : ¬ k < l.length) (h : mkInv l m k o false) : o ++ [m] = insF l m := by
  obtain ⟨rfl, h3⟩ := h
  rw [List.take_of_length_le (by omega)] at h3 ⊢
  exact (ins_all h3).symm
/-- a fresh entry -/
def freshF (l : List Mark) (e : Entry) : Bool := entryOk e && (decide ((findM l e.client).seq < e.seq) && decide (lastF l < e.index))
def overL (l : List Mark) : List Entry → Option (List Mark)
  | [] => some l
  | e :: es => if freshF l e then overL (insF l (eMark e)) es else none
theorem eMark_ok {e : Entry} (h : entryOk e = true) : markOk (eMark e) = true := by
  simp only [entryOk, Bool.and_eq_true] at h
  simp [markOk, eMark, h.1, h.2.2.1, h.2.2.2.1]
theorem fresh_ok {l : List Mark} {e : Entry} (h : SOk l) (hf : freshF l e = true) : SOk (insF l (eMark e)) ∧ lastF (insF l (eMark e)) = e.index := by
  simp only [freshF, Bool.and_eq_true, decide_eq_true_eq] at hf
  refine ⟨h.ins (eMark_ok hf.1) fun x hx => ?_, last_ins (m := eMark e) hf.2.2⟩
  have := (lastF_le.1 (Int.le_refl (lastF l))).2 x hx
  show x.index ≠ e.index
  omega
theorem overL_snoc {e : Entry} : ∀ {es : List Entry} {l : List Mark}, overL l (es ++ [e]) = (overL l es).bind fun c => if freshF c e then some (insF c (eMark e)) else none
  | [], l => by simp [overL]
  | a :: es, l => by
    simp only [List.cons_append, overL]
    split
    · exact overL_snoc
    · rfl
theorem overL_none {es : List Entry} : ∀ {fs : List Entry} {l : List Mark}, overL l fs = none → overL l (fs ++ es) = none
  | [], l, h => by simp [overL] at h
  | a :: fs, l, h => by
    simp only [List.cons_append, overL] at h ⊢
    split at h
    · rename_i hf; rw [if_pos hf]; exact overL_none h
    · rename_i hf; rw [if_neg hf]
theorem over_no {l c : List Mark} {es : List Entry} {k : Nat} (hk : k < es.length) (h : overL l (es.take k) = some c) (hf : freshF c es[k] = false) : overL l es = none := by
  have h1 : overL l (es.take (k + 1)) = none := by rw [List.take_succ_eq_append_getElem hk, overL_snoc, h]; simp [hf]
  have := overL_none (es := es.drop (k + 1)) h1
  rwa [List.take_append_drop] at this
theorem over_yes {l c : List Mark} {es : List Entry} {k : Nat} (hk : k < es.length) (h : overL l (es.take k) = some c) (hf : freshF c es[k] = true) : overL l (es.take (k + 1)) = some (insF c (eMark es[k])) := by
  rw [List.take_succ_eq_append_getElem hk, overL_snoc, h]; simp [hf]
theorem over_end {l c : List Mark} {es : List Entry} {k : Nat} (hk : ¬ k < es.length) (h : overL l (es.take k) = some c) : overL l es = some c := by rwa [List.take_of_length_le (by omega)] at h
theorem over_sok {es : List Entry} : ∀ {l c : List Mark}, SOk l → overL l es = some c → SOk c := by
  induction es with
  | nil => intro l c h hc; cases hc; exact h
  | cons e es ih =>
    intro l c h hc
    unfold overL at hc
    split at hc
    · rename_i hf; exact ih (fresh_ok h hf).1 hc
    · cases hc
def seenOverF (l : List Mark) (es : List Entry) : List Mark × Bool := if seenOk l = true then if es.length ≤ 2000 then match overL l es with
  | some c => (c, true)
  | none => (l, false) else (l, false) else ([], false)
theorem so1 {l : List Mark} {es : List Entry} (h : seenOk l = false) : seenOverF l es = ([], false) := by simp [seenOverF, h]
theorem so2 {l : List Mark} {es : List Entry} (h : seenOk l = true) (h2 : 2000 < es.length) : seenOverF l es = (l, false) := by
  have : ¬ es.length ≤ 2000 := by omega
  simp [seenOverF, h, this]
theorem so3 {l : List Mark} {es : List Entry} (h : seenOk l = true) (h2 : overL l es = none) : seenOverF l es = (l, false) := by
  simp only [seenOverF, h, h2]
  simp
theorem so4 {l c : List Mark} {es : List Entry} (h : seenOk l = true) (h1 : es.length ≤ 2000) (h2 : overL l es = some c) : seenOverF l es = (c, true) := by simp [seenOverF, h, h1, h2]
def markedF (l : List Mark) (e : Entry) : List Mark × Bool := if seenOk l = true then if freshF l e then (insF l (eMark e), true) else (l, false) else ([], false)

end Go.Proofs.YtpbhcdgdabfhfaaGreat
