/- Walks of functions of the program, printed by a program of the prover. -/
import Derived.Test.YtahkjonokeifmaaKeF30
import Derived.Test.YtahkjonokeifmaaKeVY
import Derived.Test.YtahkjonokeifmaaKeVF
import Derived.Test.YtahkjonokeifmaaKeVZ
namespace Go.Proofs.Ytahkjonokeifmaa
open Go.ChangeShapes Go.WideShapes Go.ChangeAt Go.RowKit
set_option linter.unusedVariables false
set_option linter.unusedSimpArgs false
set_option maxHeartbeats 1000000
set_option maxRecDepth 100000
attribute [local irreducible] EvL Ev EvE Quiet Eff Pure RDk RDb RDo
def eMark (e : Entry) : Mark := ⟨e.client, e.seq, e.index⟩
def insF (l : List Mark) (m : Mark) : List Mark := l.filter (fun x => decide (x.client < m.client)) ++ m :: l.filter (fun x => decide (m.client < x.client))
structure SOk (l : List Mark) : Prop where
 ok : ∀ m ∈ l, markOk m = true
 srt : l.Pairwise fun a b => a.client < b.client
 ix : l.Pairwise fun a b => a.index ≠ b.index
theorem sok_of {l : List Mark} (h : seenOk l = true) : SOk l := by
 have hs := seenOk_iff.1 h
 have hst : ∀ k (hk : k < l.length), markOk l[k] = true ∧ hasIx (l.take k) l[k].index = false ∧ overB l k l[k] = true := fun k hk => by
  have := hs k hk
  rw [step_at hk] at this
  simpa [Bool.and_eq_true] using this
 refine ⟨fun m hm => ?_, List.pairwise_iff_getElem.2 fun i j hi hj hij => ?_, List.pairwise_iff_getElem.2 fun i j hi hj hij e => ?_⟩
 ·obtain ⟨k, hk, rfl⟩ := List.mem_iff_getElem.1 hm
  exact (hst k hk).1
 ·induction j with
  | zero => omega
  | succ j ih =>
   have h1 := (hst (j + 1) hj).2.2
   simp only [overB, List.getElem?_eq_getElem (show j < l.length by omega), decide_eq_true_eq] at h1
   rcases Nat.lt_or_ge i j with h2 | h2
   ·have := ih om h2
    omega
   ·have : i = j := by omega
    subst this
    exact h1
 ·have h1 := has_at hj hij e
  rw [(hst j hj).2.1] at h1
  cases h1
theorem of_sok {l : List Mark} (h : SOk l) : seenOk l = true := by
 refine seenOk_iff.2 fun k hk => ?_
 rw [step_at hk]
 have h1 := h.ok _ (List.getElem_mem hk)
 have h2 : hasIx (l.take k) l[k].index = false := by
  unfold hasIx
  rw [List.any_eq_false]
  intro m hm
  obtain ⟨j, hj, rfl⟩ := List.mem_iff_getElem.1 hm
  rw [List.getElem_take]
  have hj2 : j < k := by rw [List.length_take] at hj; omega
  simpa using List.pairwise_iff_getElem.1 h.ix j k om hk hj2
 have h3 : overB l k l[k] = true := by
  cases k with
  | zero => rfl
  | succ j =>
   simp only [overB, List.getElem?_eq_getElem (show j < l.length by omega), decide_eq_true_eq]
   exact List.pairwise_iff_getElem.1 h.srt j (j + 1) om hk om
 simp [h1, h2, h3]
theorem mem_ins {l : List Mark} {m x : Mark} : x ∈ insF l m ↔ x = m ∨ (x ∈ l ∧ x.client ≠ m.client) := by
 simp only [insF, List.mem_append, List.mem_cons, List.mem_filter, decide_eq_true_eq]
 constructor
 ·rintro (⟨h1, h2⟩ | h | ⟨h1, h2⟩)
  ·exact .inr ⟨h1, by omega⟩
  ·exact .inl h
  ·exact .inr ⟨h1, by omega⟩
 ·rintro (h | ⟨h1, h2⟩)
  ·exact .inr (.inl h)
  ·rcases Int.lt_or_gt_of_ne h2 with h3 | h3
   ·exact .inl ⟨h1, h3⟩
   ·exact .inr (.inr ⟨h1, h3⟩)
theorem SOk.ins {l : List Mark} {m : Mark} (h : SOk l) (hm : markOk m = true) (hi : ∀ x ∈ l, x.index ≠ m.index) : SOk (insF l m) := by
 refine ⟨fun x hx => ?_, ?_, ?_⟩
 ·rcases mem_ins.1 hx with rfl | ⟨h1, _⟩
  ·exact hm
  ·exact h.ok x h1
 ·unfold insF
  refine List.pairwise_append.2 ⟨h.srt.filter _, List.pairwise_cons.2 ⟨fun a ha => ?_, h.srt.filter _⟩, fun a ha b hb => ?_⟩
  ·simp only [List.mem_filter, decide_eq_true_eq] at ha; exact ha.2
  ·simp only [List.mem_cons, List.mem_filter, decide_eq_true_eq] at ha hb
   rcases hb with rfl | hb
   ·exact ha.2
   ·omega
 ·unfold insF
  refine List.pairwise_append.2 ⟨h.ix.filter _, List.pairwise_cons.2 ⟨fun a ha => ?_, h.ix.filter _⟩, fun a ha b hb => ?_⟩
  ·simp only [List.mem_filter] at ha; exact fun e => hi a ha.1 e.symm
  ·simp only [List.mem_cons, List.mem_filter, decide_eq_true_eq] at ha hb
   rcases hb with rfl | hb
   ·exact hi a ha.1
   ·have key : ∀ {l : List Mark}, l.Pairwise (fun a b => a.client < b.client) → l.Pairwise (fun a b => a.index ≠ b.index) → ∀ a ∈ l, ∀ b ∈ l, a.client < b.client → a.index ≠ b.index := by
     intro l
     induction l with
     | nil => intro _ _ a ha; simp at ha
     | cons y l ih =>
      intro h1 h2 a ha b hb hab
      rw [List.pairwise_cons] at h1 h2
      rcases List.mem_cons.1 ha with e1 | ha'
      ·rcases List.mem_cons.1 hb with e2 | hb'
       ·rw [e1, e2] at hab; omega
       ·rw [e1]; exact h2.1 b hb'
      ·rcases List.mem_cons.1 hb with e2 | hb'
       ·have := h1.1 a ha'; rw [e2] at hab; omega
       ·exact ih h1.2 h2.2 a ha' b hb' hab
    exact key h.srt h.ix a ha.1 b hb.1 om
theorem lastF_le {l : List Mark} {b : Int} : lastF l ≤ b ↔ 0 ≤ b ∧ ∀ x ∈ l, x.index ≤ b := by
 have key : ∀ (l : List Mark) (s : Int), l.foldl (fun s m => max s m.index) s ≤ b ↔ s ≤ b ∧ ∀ x ∈ l, x.index ≤ b := by
  intro l
  induction l with
  | nil => intro s; simp
  | cons a l ih =>
   intro s
   rw [List.foldl_cons, ih]
   simp only [List.mem_cons, forall_eq_or_imp]
   constructor
   ·rintro ⟨h1, h2⟩; exact ⟨by omega, by omega, h2⟩
   ·rintro ⟨h1, h2, h3⟩; exact ⟨by omega, h3⟩
 exact key l 0
theorem last_ins {l : List Mark} {m : Mark} (h : lastF l < m.index) : lastF (insF l m) = m.index := by
 have h0 := (lastF_le (l := l)).1 (Int.le_refl _)
 have h1 : lastF (insF l m) ≤ m.index := lastF_le.2 ⟨by omega, fun x hx => by
  rcases mem_ins.1 hx with rfl | ⟨h1, _⟩
  ·exact Int.le_refl _
  ·have := h0.2 x h1; omega⟩
 have h2 := (lastF_le.1 (Int.le_refl (lastF (insF l m)))).2 m (mem_ins.2 (.inl rfl))
 omega
theorem find_filter {α : Type} {p q : α → Bool} : ∀ {l : List α}, (l.filter p).find? q = l.find? fun x => p x && q x
 | [] => rfl
 | a :: l => by
  cases hp : p a
  ·rw [List.filter_cons_of_neg (by simp [hp]), List.find?_cons_of_neg (by simp [hp]), find_filter]
  ·rw [List.filter_cons_of_pos hp, List.find?_cons, List.find?_cons, find_filter]
   simp [hp]
theorem find_ins {l : List Mark} {m : Mark} {q : Int} : (insF l m).find? (fun x => decide (x.client = q)) = if q = m.client then some m else l.find? fun x => decide (x.client = q) := by
 unfold insF
 rw [List.find?_append, find_filter, List.find?_cons, find_filter]
 by_cases h : q = m.client
 ·subst h
  rw [if_pos rfl, List.find?_eq_none.2 (by intro x _; simp; omega)]
  simp
 ·rw [if_neg h]
  have hm : decide (m.client = q) = false := decide_eq_false fun e => h e.symm
  rw [hm]
  rcases Int.lt_or_gt_of_ne h with h2 | h2
  ·have e1 : (fun x : Mark => decide (x.client < m.client) && decide (x.client = q)) = fun x => decide (x.client = q) := by
    funext x
    by_cases hx : x.client = q
    ·simp [hx, h2]
    ·simp [hx]
   have e2 : l.find? (fun x : Mark => decide (m.client < x.client) && decide (x.client = q)) = none := List.find?_eq_none.2 (by intro x _; simp; omega)
   rw [e1, e2]
   simp
  ·have e1 : (fun x : Mark => decide (m.client < x.client) && decide (x.client = q)) = fun x => decide (x.client = q) := by
    funext x
    by_cases hx : x.client = q
    ·simp [hx, h2]
    ·simp [hx]
   have e2 : l.find? (fun x : Mark => decide (x.client < m.client) && decide (x.client = q)) = none := List.find?_eq_none.2 (by intro x _; simp; omega)
   rw [e1, e2]
   simp
theorem filter_up {l : List Mark} (h : l.Pairwise fun a b => a.client < b.client) (c : Int) : l.filter (fun x => decide (x.client < c + 1)) = l.filter (fun x => decide (x.client < c)) ++ (l.find? fun x => decide (x.client = c)).toList := by
 induction l with
 | nil => rfl
 | cons a l ih =>
  rw [List.pairwise_cons] at h
  have hn : ∀ d, d ≤ a.client → l.filter (fun x => decide (x.client < d)) = [] := fun d hd => List.filter_eq_nil_iff.2 fun x hx => by have := h.1 x hx; simp; omega
  rcases Int.lt_trichotomy a.client c with h1 | h1 | h1
  ·rw [List.filter_cons_of_pos (by simp; omega), List.filter_cons_of_pos (by simpa using h1), List.find?_cons_of_neg (by simp; omega), ih h.2]
   rfl
  ·rw [List.filter_cons_of_pos (by simp; omega), List.filter_cons_of_neg (by simp; omega), List.find?_cons_of_pos (by simpa using h1), hn c om]
   have : l.filter (fun x => decide (x.client < c + 1)) = [] := List.filter_eq_nil_iff.2 fun x hx => by have := h.1 x hx; simp; omega
   rw [this]; rfl
  ·rw [List.filter_cons_of_neg (by simp; omega), List.filter_cons_of_neg (by simp; omega), List.find?_cons_of_neg (by simp; omega), hn c om, hn (c + 1) om]
   have : l.find? (fun x => decide (x.client = c)) = none := List.find?_eq_none.2 fun x hx => by have := h.1 x hx; simp; omega
   rw [this]; rfl
def outF (l : List Mark) (k : Nat) : List Mark := l.filter fun x => decide (x.client < 2 + (k : Int))
theorem outF_next {l : List Mark} (h : SOk l) (k : Nat) : outF l (k + 1) = outF l k ++ (l.find? fun x => decide (x.client = 2 + (k : Int))).toList := by
 unfold outF
 rw [← filter_up h.srt, show (2 : Int) + (k + 1 : Nat) = 2 + k + 1 by omega]
theorem mark_bd {m : Mark} (h : markOk m = true) : 2 ≤ m.client ∧ m.client ≤ 5 := by
 simp only [markOk, askerOk, inB, Bool.and_eq_true, decide_eq_true_eq] at h
 omega
theorem outF_zero {l : List Mark} (h : SOk l) : outF l 0 = [] := List.filter_eq_nil_iff.2 fun x hx => by have := mark_bd (h.ok x hx); simp; omega
theorem outF_all {l : List Mark} (h : SOk l) : outF l 4 = l := List.filter_eq_self.2 fun x hx => by have := mark_bd (h.ok x hx); simp; omega
def freshF (l : List Mark) (e : Entry) : Bool := entryOk e && (decide ((findM l e.client).seq < e.seq) && decide (lastF l < e.index))
def overL (l : List Mark) : List Entry → Option (List Mark)
 | [] => some l
 | e :: es => if freshF l e then overL (insF l (eMark e)) es else none
theorem eMark_ok {e : Entry} (h : entryOk e = true) : markOk (eMark e) = true := by
 simp only [entryOk, Bool.and_eq_true] at h
 simp [markOk, eMark, h.1, h.2.2.1, h.2.2.2.1]
theorem fresh_ok {l : List Mark} {e : Entry} (h : SOk l) (hf : freshF l e = true) : SOk (insF l (eMark e)) ∧ lastF (insF l (eMark e)) = e.index := by
 simp only [freshF, Bool.and_eq_true, decide_eq_true_eq] at hf
 refine ⟨h.ins (eMark_ok hf.1) fun x hx => ?_, last_ins (m := eMark e) hf.2.2⟩
 have := (lastF_le.1 (Int.le_refl (lastF l))).2 x hx
 show x.index ≠ e.index
 omega
theorem overL_snoc {e : Entry} : ∀ {es : List Entry} {l : List Mark}, overL l (es ++ [e]) = (overL l es).bind fun c => if freshF c e then some (insF c (eMark e)) else none
 | [], l => by simp [overL]
 | a :: es, l => by
  simp only [List.cons_append, overL]
  split
  ·exact overL_snoc
  ·rfl
theorem overL_none {es : List Entry} : ∀ {fs : List Entry} {l : List Mark}, overL l fs = none → overL l (fs ++ es) = none
 | [], l, h => by simp [overL] at h
 | a :: fs, l, h => by
  simp only [List.cons_append, overL] at h ⊢
  split at h
  ·rename_i hf; rw [if_pos hf]; exact overL_none h
  ·rename_i hf; rw [if_neg hf]
theorem over_no {l c : List Mark} {es : List Entry} {k : Nat} (hk : k < es.length) (h : overL l (es.take k) = some c) (hf : freshF c es[k] = false) : overL l es = none := by
 have h1 : overL l (es.take (k + 1)) = none := by rw [List.take_succ_eq_append_getElem hk, overL_snoc, h]; simp [hf]
 have := overL_none (es := es.drop (k + 1)) h1
 rwa [List.take_append_drop] at this
theorem over_yes {l c : List Mark} {es : List Entry} {k : Nat} (hk : k < es.length) (h : overL l (es.take k) = some c) (hf : freshF c es[k] = true) : overL l (es.take (k + 1)) = some (insF c (eMark es[k])) := by
 rw [List.take_succ_eq_append_getElem hk, overL_snoc, h]; simp [hf]
theorem over_end {l c : List Mark} {es : List Entry} {k : Nat} (hk : ¬ k < es.length) (h : overL l (es.take k) = some c) : overL l es = some c := by rwa [List.take_of_length_le om] at h
theorem over_sok {es : List Entry} : ∀ {l c : List Mark}, SOk l → overL l es = some c → SOk c := by
 induction es with
 | nil => intro l c h hc; cases hc; exact h
 | cons e es ih =>
  intro l c h hc
  unfold overL at hc
  split at hc
  ·rename_i hf; exact ih (fresh_ok h hf).1 hc
  ·cases hc
def seenOverF (l : List Mark) (es : List Entry) : List Mark × Bool := if seenOk l = true then if es.length ≤ 2000 then match overL l es with
 | some c => (c, true)
 | none => (l, false) else (l, false) else ([], false)
theorem so1 {l : List Mark} {es : List Entry} (h : seenOk l = false) : seenOverF l es = ([], false) := by simp [seenOverF, h]
theorem so2 {l : List Mark} {es : List Entry} (h : seenOk l = true) (h2 : 2000 < es.length) : seenOverF l es = (l, false) := by
 have : ¬ es.length ≤ 2000 := by omega
 simp [seenOverF, h, this]
theorem so3 {l : List Mark} {es : List Entry} (h : seenOk l = true) (h2 : overL l es = none) : seenOverF l es = (l, false) := by
 simp only [seenOverF, h, h2]
 simp
theorem so4 {l c : List Mark} {es : List Entry} (h : seenOk l = true) (h1 : es.length ≤ 2000) (h2 : overL l es = some c) : seenOverF l es = (c, true) := by simp [seenOverF, h, h1, h2]
def markedF (l : List Mark) (e : Entry) : List Mark × Bool := if seenOk l = true then if freshF l e then (insF l (eMark e), true) else (l, false) else ([], false)
theorem mk_no0 {l : List Mark} {e : Entry} (h : seenOk l = false) : markedF l e = ([], false) := by simp [markedF, h]
theorem mk_no {l : List Mark} {e : Entry} (h : seenOk l = true) (hf : freshF l e = false) : markedF l e = (l, false) := by simp [markedF, h, hf]
theorem mk_yes {l : List Mark} {e : Entry} (h : seenOk l = true) (hf : freshF l e = true) : markedF l e = (insF l (eMark e), true) := by simp [markedF, h, hf]
theorem fresh_no1 {l : List Mark} {e : Entry} (h : entryOk e = false) : freshF l e = false := by simp [freshF, h]
theorem fresh_no3 {l : List Mark} {e : Entry} (h : e.index ≤ lastF l) : freshF l e = false := by
 have : ¬ lastF l < e.index := by omega
 simp [freshF, this]
theorem fresh_no4 {l : List Mark} {e : Entry} (h : e.seq ≤ (findM l e.client).seq) : freshF l e = false := by
 have : ¬ (findM l e.client).seq < e.seq := by omega
 simp [freshF, this]
theorem fresh_yes2 {l : List Mark} {e : Entry} (h1 : entryOk e = true) (h2 : ¬ e.seq ≤ (findM l e.client).seq) (h3 : ¬ e.index ≤ lastF l) : freshF l e = true := by
 have h4 : lastF l < e.index := by omega
 have h5 : (findM l e.client).seq < e.seq := by omega
 simp [freshF, h1, h4, h5]
theorem marked_snd {l : List Mark} {e : Entry} (h : seenOk l = true) : (markedF l e).2 = freshF l e := by
 cases hf : freshF l e
 ·rw [mk_no h hf]
 ·rw [mk_yes h hf]
def markV (m : Mark) : Value := .agg #[.int .i64 m.client, .int .i64 m.seq, .int .i64 m.index]
def mapF (c : List Mark) : Int → Option Value := fun q => (c.find? fun x => decide (x.client = q)).map markV
theorem mapA_next {l : List Mark} (hs : SOk l) {k : Nat} (hk : k < l.length) (q : Int) : mapF (l.take (k + 1)) q = if q = l[k].client then some (mkV true [.int .i64 l[k].client, .int .i64 l[k].seq, .int .i64 l[k].index]) else mapF (l.take k) q := by
 unfold mapF
 rw [List.take_succ_eq_append_getElem hk, List.find?_append]
 by_cases h : q = l[k].client
 ·rw [if_pos h]
  have : (l.take k).find? (fun x => decide (x.client = q)) = none := List.find?_eq_none.2 fun x hx => by
   obtain ⟨j, hj, rfl⟩ := List.mem_iff_getElem.1 hx
   rw [List.getElem_take]
   have hj2 : j < k := by rw [List.length_take] at hj; omega
   have := List.pairwise_iff_getElem.1 hs.srt j k om hk hj2
   simp only [decide_eq_true_eq]
   omega
  rw [this, List.find?_cons_of_pos (by simpa using h.symm)]
  rfl
 ·rw [if_neg h, List.find?_cons_of_neg (by simpa using fun e : l[k].client = q => h e.symm)]
  simp
theorem mapB_next (c : List Mark) (e : Entry) (q : Int) : mapF (insF c (eMark e)) q = if q = e.client then some (mkV true [.int .i64 e.client, .int .i64 e.seq, .int .i64 e.index]) else if q = e.client then none else mapF c q := by
 unfold mapF
 rw [find_ins]
 by_cases h : q = e.client
 ·rw [if_pos h, if_pos (show q = (eMark e).client from h)]; rfl
 ·rw [if_neg h, if_neg h, if_neg (show ¬ q = (eMark e).client from h)]
theorem look_at (c : List Mark) (q : Int) : (mapF c q).getD (.agg [Value.int .i64 0, .int .i64 0, .int .i64 0].toArray) = .agg [Value.int .i64 (findM c q).client, .int .i64 (findM c q).seq, .int .i64 (findM c q).index].toArray := by
 unfold mapF findM
 cases c.find? (fun x => decide (x.client = q)) <;> rfl
theorem look_some (c : List Mark) (q : Int) : (mapF c q).isSome = (c.find? fun x => decide (x.client = q)).isSome := by
 unfold mapF
 cases c.find? (fun x => decide (x.client = q)) <;> rfl
theorem mark_one (m : Mark) : ∀ u ∈ [Value.int .i64 m.client, .int .i64 m.seq, .int .i64 m.index], u.oneCell' = true := by
 intro u hu
 simp only [List.mem_cons, List.not_mem_nil, or_false] at hu
 rcases hu with rfl | rfl | rfl <;> rfl
theorem out_yes {c : List Mark} {k : Nat} {z : Int} (hs : SOk c) (hz : z = (k : Int) + 2) (h : (c.find? fun x => decide (x.client = z)).isSome = true) : (outF c k).map markC ++ [[iC (findM c z).client, iC (findM c z).seq, iC (findM c z).index]] = (outF c (k + 1)).map markC := by
 obtain ⟨m, hm⟩ := Option.isSome_iff_exists.1 h
 have e : findM c z = m := by unfold findM; rw [hm]; rfl
 rw [outF_next hs, show (2 : Int) + k = z by omega, hm, e]
 simp
theorem out_no {c : List Mark} {k : Nat} {z : Int} (hs : SOk c) (hz : z = (k : Int) + 2) (h : (c.find? fun x => decide (x.client = z)).isSome = false) : (outF c k).map markC = (outF c (k + 1)).map markC := by
 have hm : c.find? (fun x => decide (x.client = z)) = none := by simpa using h
 rw [outF_next hs, show (2 : Int) + k = z by omega, hm]
 simp
theorem so_len {l c : List Mark} {es : List Entry} (h : SOk l) (hc : overL l es = some c) : c.length ≤ 4 := seen_len (of_sok (over_sok h hc))
theorem c_SeenOver' (l : List Mark) (es : List Entry) : Pure Try.prog 74 [one (marks l), one (entries es)] [one' (marksR (seenOverF l es).1), one' (RC.v (.bool (seenOverF l es).2))] := by
 refine pure_intro (N := 98) Try.func74 rfl rfl rfl rfl (fun H w => ?_)
 refine ev_lenm (t := 0) rfl (fun hL => ?_)
 refine ev_lenm (t := 1) rfl (fun hE => ?_)
 refine sq (rg (xs rfl rfl (xs rfl rfl (nl (et (sq (sq (rg (xm rfl rfl (evl_call (nm := 17) (cf rfl) (c_SeenOk' l) (rs_of rfl) rfl rfl rfl (xo (q_not rfl) rfl (nl (et (ev_cond_n rfl (fun h1 => ?_) (fun h1 => ?_)))))))))))))))
 try have d1 := of_decide_eq_false h1
 refine sq (rg (xs rfl rfl (xs rfl rfl (nl (et (ev_ret (evr_then (ret_pureN ttOk rfl rfl ?_))))))))
 rotate_left
 try have d1 := of_decide_eq_true h1
 have hl4 := seen_len h1
 have hso := sok_of h1
 refine ev_skip (et (sq (sq (rg (xm rfl rfl (xo (q_len_map ttOk rfl rfl) rfl (xb ttOk rfl rfl (nl (et (ev_cond rfl (fun h2 => ?_) (fun h2 => ?_)))))))))))
 try have d2 := of_decide_eq_true h2
 refine sq (rg (xm rfl rfl (evl_call (nm := 23) (cf rfl) (c_copySeen l om) (rs_of rfl) rfl rfl rfl (xs rfl rfl (xs rfl rfl (nl (et (ev_ret (evr_then (ret_pureN ttOk rfl rfl ?_))))))))))
 rotate_left
 try have d2 := of_decide_eq_false h2
 refine ev_skip (et (sq (rg (evl_e (e_mkmap (kt := 2) (et := 89) kr rfl rfl) (xs rfl rfl (nl (et (sq (sq (rg (xm rfl rfl (xo (q_len_map ttOk rfl rfl) rfl (xm rfl rfl (nl (et (ev_blk (ev_loop (fun k : Nat => (⟨[(27, iV k), (25, cV (marks l)), (26, iV l.length), (0, cV (marks l)), (1, cV (entries es)), (6, .p false [.mp 24])], [], [], [(24, mapF (l.take k))]⟩ : St)) (fun k => k ≤ l.length) (fun k => l.length - k) 0 [] (by simp) ⟨trf, trf, tre, ⟨⟨_, rfl, rfl⟩, trivial⟩, rfl⟩ ?_)))))))))))))))))
 intro k hp
 have p0 := hp
 show Ev _ _ _ _ (⟨[(27, iV k), (25, cV (marks l)), (26, iV l.length), (0, cV (marks l)), (1, cV (entries es)), (6, .p false [.mp 24])], [], [], [(24, mapF (l.take k))]⟩ : St)
 refine sq (rg (xb ttOk rfl rfl (nl (et (sq (ev_cond rfl (fun h3 => ?_) (fun h3 => ?_)))))))
 try have d3 := of_decide_eq_true h3
 refine ev_skip (et (sq (ev_blk (sq (rg (xo (q_ix_map ttOk rfl rfl rfl rfl om) rfl (xl ttOk rfl rfl (evl_e (e_alloc ttOk rfl rfl rfl rfl) (xst ttOk rfl rfl (nl (et (rg (xm rfl rfl (xf ttOk rfl rfl (xl ttOk rfl rfl (xl ttOk rfl rfl (evl_e (e_mapset (f' := mapF (l.take (k + 1))) (kt := 2) (et := 89) kr rfl rfl rfl rfl rfl (mapA_next hso om) rfl) (nl (eb (et (rg (xa rfl rfl rfl om rfl (xm rfl rfl (nl (eve_round (k + 1) [] ?hp lei)))))))))))))))))))))))))
 case hp => exact ⟨by omega, by omega⟩
 try have d3 := of_decide_eq_false h3
 refine ev_exit (evx_then (evx_then (evx_hit (et (sq (rg (xm rfl rfl (evl_call (nm := 37) (cf rfl) (c_lastSeen l) (rs_of rfl) rfl rfl rfl (xs rfl rfl (nl (et (sq (sq (rg (xm rfl rfl (xo (q_len_map ttOk rfl rfl) rfl (xm rfl rfl (nl (et (ev_blk (ev_loop (fun i : Nat × List Mark × Int => (⟨[(40, iV i.1), (38, cV (entries es)), (39, iV es.length), (0, cV (marks l)), (6, .p false [.mp 24]), (9, iV i.2.2)], [], [], [(24, mapF i.2.1)]⟩ : St)) (fun i => i.1 ≤ es.length ∧ overL l (es.take i.1) = some i.2.1 ∧ i.2.2 = lastF i.2.1) (fun i => es.length - i.1) (0, l, lastF l) [] (⟨by simp, rfl, rfl⟩) ⟨trf, trf, tre, ⟨⟨_, rfl, by rw [List.take_of_length_le om]⟩, trivial⟩, rfl⟩ ?_)))))))))))))))))))))
 intro i hp
 obtain ⟨k, c, s⟩ := i
 have hp : k ≤ es.length ∧ overL l (es.take k) = some c ∧ s = lastF c := hp
 obtain ⟨p0, p1, p2⟩ := hp
 show Ev _ _ _ _ (⟨[(40, iV k), (38, cV (entries es)), (39, iV es.length), (0, cV (marks l)), (6, .p false [.mp 24]), (9, iV s)], [], [], [(24, mapF c)]⟩ : St)
 subst p2
 have hcl := so_len hso p1
 have hsc := over_sok hso p1
 refine sq (rg (xb ttOk rfl rfl (nl (et (sq (ev_cond rfl (fun h4 => ?_) (fun h4 => ?_)))))))
 try have d4 := of_decide_eq_true h4
 refine ev_skip (et (sq (ev_blk (sq (rg (xo (q_ix_map ttOk rfl rfl rfl rfl om) rfl (xl ttOk rfl rfl (evl_e (e_alloc ttOk rfl rfl rfl rfl) (xst ttOk rfl rfl (nl (et (sq (sq (rg (xl ttOk rfl rfl (evl_call (nm := 45) (cf rfl) (c_EntryOk' es[k]) (rs_of rfl) rfl rfl rfl (xo (q_not rfl) rfl (xm rfl rfl (evl_partn rfl rfl (fun h5 => ?_) (fun h5 => ?_))))))))))))))))))))
 try have d5 := of_decide_eq_false h5
 refine gn (nt h5) rfl rfl rfl (gn (nt h5) rfl rfl rfl (gn (nt h5) rfl rfl rfl (gn (nt h5) rfl rfl rfl (gn (nt h5) rfl rfl rfl (gn (nt h5) rfl rfl rfl (gn (nt h5) rfl rfl rfl (gn (nt h5) rfl rfl rfl (xo (q_pick_t rfl (nt h5) rfl) rfl (xm rfl rfl (gn rfl rfl rfl rfl (gn rfl rfl rfl rfl (gn rfl rfl rfl rfl (gn rfl rfl rfl rfl (xo (q_pick_t rfl rfl rfl) rfl (nl (et (ev_cond_kt rfl rfl (sq (rg (xm rfl rfl (evl_call (nm := 64) (cf rfl) (c_copySeen l om) (rs_of rfl) rfl rfl rfl (xs rfl rfl (xs rfl rfl (nl (et (ev_ret (evr_then (evr_blk (evr_then (evr_then (evr_blk (evr_then (ret_pureN ttOk rfl rfl ?_)))))))))))))))))))))))))))))))))
 rotate_left
 try have d5 := of_decide_eq_true h5
 refine go (nf h5) rfl rfl (q_fieldAddr ttOk rfl) rfl (go (nf h5) rfl rfl (q_load ttOk rfl) rfl (gm (nf h5) rfl rfl rfl rfl (go (nf h5) rfl rfl (q_fieldAddr ttOk rfl) rfl (go (nf h5) rfl rfl (q_load ttOk rfl) rfl (go (nf h5) rfl rfl (q_lookup_s (us := [.int .i64 (findM c es[k].client).client, .int .i64 (findM c es[k].client).seq, .int .i64 (findM c es[k].client).index]) (kt := 2) (et := 89) kr ttOk rfl rfl rfl rfl rfl rfl (look_at c _) (mark_one _)) rfl (go (nf h5) rfl rfl (q_field ttOk rfl) rfl (go (nf h5) rfl rfl (q_bin ttOk rfl) rfl (xo (q_pick_f rfl (nf h5) rfl) rfl (xm rfl rfl (evl_part rfl rfl (fun h6 => ?_) (fun h6 => ?_)))))))))))
 try have d6 := of_decide_eq_true h6
 refine gn h6 rfl rfl rfl (gn h6 rfl rfl rfl (gn h6 rfl rfl rfl (gn h6 rfl rfl rfl (xo (q_pick_t rfl h6 rfl) rfl (nl (et (ev_cond_kt rfl rfl (sq (rg (xm rfl rfl (evl_call (nm := 64) (cf rfl) (c_copySeen l om) (rs_of rfl) rfl rfl rfl (xs rfl rfl (xs rfl rfl (nl (et (ev_ret (evr_then (evr_blk (evr_then (evr_then (evr_blk (evr_then (ret_pureN ttOk rfl rfl ?_)))))))))))))))))))))))
 rotate_left
 try have d6 := of_decide_eq_false h6
 refine go h6 rfl rfl (q_fieldAddr ttOk rfl) rfl (go h6 rfl rfl (q_load ttOk rfl) rfl (gm h6 rfl rfl rfl rfl (go h6 rfl rfl (q_bin ttOk rfl) rfl (xo (q_pick_f rfl h6 rfl) rfl (nl (et (ev_cond rfl (fun h7 => ?_) (fun h7 => ?_))))))))
 try have d7 := of_decide_eq_true h7
 refine sq (rg (xm rfl rfl (evl_call (nm := 64) (cf rfl) (c_copySeen l om) (rs_of rfl) rfl rfl rfl (xs rfl rfl (xs rfl rfl (nl (et (ev_ret (evr_then (evr_blk (evr_then (evr_then (evr_blk (evr_then (ret_pureN ttOk rfl rfl ?_)))))))))))))))
 rotate_left
 try have d7 := of_decide_eq_false h7
 refine ev_skip (et (sq ?_))
 have hfr := fresh_yes2 (l := c) (e := es[k]) ‹_› ‹_› ‹_›
 refine rg (xm rfl rfl (xf ttOk rfl rfl (xl ttOk rfl rfl (evl_e (e_mapdel (kt2 := 2) (f' := fun q => if q = es[k].client then none else mapF c q) (kt := 2) (et := 89) kr rfl rfl rfl rfl (fun q => rfl) rfl) (nl (et (sq (rg (xm rfl rfl (xf ttOk rfl rfl (xl ttOk rfl rfl (xf ttOk rfl rfl (xl ttOk rfl rfl (xf ttOk rfl rfl (xl ttOk rfl rfl (xf ttOk rfl rfl (xl ttOk rfl rfl (xo (q_build ttOk rfl) rfl (evl_e (e_mapset (f' := mapF (insF c (eMark es[k]))) (kt := 2) (et := 89) kr rfl rfl rfl rfl rfl (mapB_next c es[k]) rfl) (nl (et (rg (xf ttOk rfl rfl (xl ttOk rfl rfl (xs rfl rfl (nl (eb (et (rg (xa rfl rfl rfl om rfl (xm rfl rfl (nl (eve_round (k + 1, insF c (eMark es[k]), es[k].index) [] ?hp lei)))))))))))))))))))))))))))))))))
 case hp => exact ⟨⟨by omega, over_yes om p1 hfr, (fresh_ok hsc hfr).2.symm⟩, by omega⟩
 try have d4 := of_decide_eq_false h4
 refine ev_exit (evx_then (evx_then (evx_hit (et (sq ?_)))))
 obtain rfl : k = es.length := by omega
 refine rg (evl_e (e_lit ttOk rfl rfl rfl) (xs rfl rfl (nl (et (sq (sq (rg (xs rfl rfl (nl (et (ev_blk (ev_loop (fun i : Nat × Int => (⟨[(13, iV i.2), (6, .p false [.mp 24]), (12, .p false [.rt 101])], [], [(101, 89, 3, ((outF c i.1).map markC))], [(24, mapF c)]⟩ : St)) (fun i => i.1 ≤ 4 ∧ i.2 = (i.1 : Int) + 2) (fun i => 4 - i.1) (0, 2) [(101, 81)] (⟨by simp, rfl⟩) ⟨trf, trf, ⟨⟨_, rfl, by rw [outF_zero hsc]; rfl⟩, trivial⟩, tre, rfl⟩ ?_))))))))))))
 intro i hp
 obtain ⟨j, z⟩ := i
 have hp : j ≤ 4 ∧ z = (j : Int) + 2 := hp
 obtain ⟨q0, q1⟩ := hp
 show Ev _ _ _ _ (⟨[(13, iV z), (6, .p false [.mp 24]), (12, .p false [.rt 101])], [], [(101, 89, 3, ((outF c j).map markC))], [(24, mapF c)]⟩ : St)
 refine sq (sq (rg (xm rfl rfl (xb ttOk rfl rfl (nl (et (ev_cond rfl (fun h8 => ?_) (fun h8 => ?_))))))))
 try have d8 := of_decide_eq_true h8
 refine ev_skip (et (sq (ev_blk (sq (rg (xm rfl rfl (xm rfl rfl (xo (q_lookup_ok (us := [.int .i64 (findM c z).client, .int .i64 (findM c z).seq, .int .i64 (findM c z).index]) (kt := 2) (et := 89) kr ttOk rfl rfl rfl rfl rfl rfl (look_at c _) (look_some c _) (mark_one _)) rfl (xm rfl rfl (xo (q_ext rfl) rfl (xo (q_ext rfl) rfl (evl_e (e_alloc ttOk rfl rfl rfl rfl) (xst ttOk rfl rfl (xs rfl rfl (nl (et (sq (rg (xm rfl rfl (nl (et (ev_cond rfl (fun h9 => ?_) (fun h9 => ?_)))))))))))))))))))))))
 try have d9 := of_decide_eq_true h9
 have hol : (outF c j).length ≤ c.length := List.length_filter_le _ _
 refine rg (xm rfl rfl (xl ttOk rfl rfl (evl_e (e_lit ttOk rfl rfl rfl) (evl_e (e_app ttOk rfl rfl rfl rfl rfl rfl rfl (by simp; omega) rfl rfl) (xs rfl rfl (nl (eb (et (rg (xm rfl rfl (xa rfl rfl rfl om rfl (xs rfl rfl (nl (eve_round (j + 1, _) [(101, 96)] ?hp ⟨trf, trf, ⟨⟨_, rfl, by exact out_yes hsc q1 ‹_›⟩, trivial⟩, tre, rfl⟩))))))))))))))
 case hp => exact ⟨⟨by omega, by omega⟩, by omega⟩
 try have d9 := of_decide_eq_false h9
 refine ev_skip (eb (et (rg (xm rfl rfl (xa rfl rfl rfl om rfl (xs rfl rfl (nl (eve_round (j + 1, _) [(101, 101)] ?hp ⟨trf, trf, ⟨⟨_, rfl, by exact out_no hsc q1 ‹_›⟩, trivial⟩, tre, rfl⟩))))))))
 case hp => exact ⟨⟨by omega, by omega⟩, by omega⟩
 try have d8 := of_decide_eq_false h8
 refine ev_exit (evx_then (evx_then (evx_hit (et (sq (rg (xm rfl rfl (xs rfl rfl (xs rfl rfl (nl (et (ev_ret (ret_pureN ttOk rfl rfl ?_)))))))))))))
 rotate_left
 all_goals
  first
  | (rw [so1 ‹_›]; simp [RpLe, L2, RcLe]; done)
  | (rw [so2 ‹_› om]; simp [RpLe, L2, RcLe]; done)
  | (rw [so3 ‹_› (over_no om p1 (fresh_no1 ‹_›))]; simp [RpLe, L2, RcLe]; done)
  | (rw [so3 ‹_› (over_no om p1 (fresh_no4 ‹_›))]; simp [RpLe, L2, RcLe]; done)
  | (rw [so3 ‹_› (over_no om p1 (fresh_no3 ‹_›))]; simp [RpLe, L2, RcLe]; done)
  | (obtain rfl : j = 4 := by omega
     rw [so4 ‹_› om (over_end om p1), outF_all hsc]; simp [RpLe, L2, RcLe]; done)
def noEntry : Entry := ⟨0, 0, 0, 0, 0, 0, 0, 0, 0⟩
def atB (b : Book) (x : Int) : Entry := b.entries.getD (x - b.base - 1).toNat noEntry
def timeAtF (b : Book) (x : Int) : Int := if x = b.base then b.time else (atB b x).time
def entAtF (b : Book) (x : Int) : Entry × Bool := if bookOk b && inB x (b.base + 1) (lastB b) then (atB b x, true) else (noEntry, false)
theorem atB_eq {b : Book} {x : Int} {m : Nat} (h : x - b.base - 1 = (m : Int)) (hm : m < b.entries.length) : atB b x = b.entries[m] := by
 unfold atB
 rw [h, Int.toNat_natCast, List.getD_eq_getElem?_getD, List.getElem?_eq_getElem hm]
 rfl
theorem at_get {b : Book} {x : Int} (h1 : b.base < x) (h2 : x ≤ lastB b) : ∃ m : Nat, x - b.base - 1 = (m : Int) ∧ m < b.entries.length := by
 unfold lastB at h2
 exact ⟨(x - b.base - 1).toNat, by omega, by omega⟩
theorem ent_yes {b : Book} {x : Int} {m : Nat} (h : bookOk b = true) (h2 : inB x (b.base + 1) (lastB b) = true) (h3 : x - b.base - 1 = (m : Int)) (hm : m < b.entries.length) : entAtF b x = (b.entries[m], true) := by simp [entAtF, h, h2, atB_eq h3 hm]
def nextF (n : LogN) (x : Int) : Head := ⟨n.head.num + 1, x, timeAtF n.book x, (seenOverF n.head.seen (partF n.book (n.book.base + 1) x)).1⟩
def owesF (n : LogN) : Bool := eqN Ack.nums n.owe ((partF n.book (n.durable + 1) 2000).map ackF)
def frontF (n : LogN) : Bool := keptOk n.two && (headOk n.head && (bookOk n.book && (decide (n.book.base = n.head.base) && decide (n.book.time = n.head.time))))
def midF (n : LogN) : Bool := (seenOverF n.head.seen n.book.entries).2 && (eqN Mark.nums (seenOverF n.head.seen n.book.entries).1 n.seen && inB n.durable n.book.base (lastB n.book))
def logOkF (n : LogN) : Bool := frontF n && (midF n && (owesF n && (if n.more then inB n.next.base (n.head.base + 1) n.durable && eqHd n.next (nextF n n.next.base) else eqHd n.next noHead)))
def nextOkF (n : LogN) : Bool := if n.more then headOk n.next && (decide (n.next.num = n.head.num + 1) && (decide (n.head.base < n.next.base) && (decide (n.next.base ≤ n.durable) && (decide (n.next.time = (entAtF n.book n.next.base).1.time) && eqN Mark.nums n.next.seen (seenOverF n.head.seen (n.book.entries.take (n.next.base - n.book.base).toNat)).1)))) else eqHd n.next noHead
theorem head_bd {h : Head} (hh : headOk h = true) : 0 ≤ h.base ∧ h.base ≤ 2000 ∧ 0 ≤ h.num ∧ h.num ≤ h.base ∧ seenOk h.seen = true := by
 simp only [headOk, inB, Bool.and_eq_true, decide_eq_true_eq] at hh
 exact ⟨hh.1.1, hh.1.2, hh.2.1.1, hh.2.1.2, hh.2.2.2.2.1⟩
theorem ents_ok {l : List Entry} (h : entriesOk l = true) : ∀ e ∈ l, entryOk e = true := fun e he => by
 obtain ⟨k, hk, rfl⟩ := List.mem_iff_getElem.1 he
 have := (entriesOk_iff.1 h).2 k hk
 rw [entStep_at hk] at this
 simp only [Bool.and_eq_true] at this
 exact this.1
theorem book_first {b : Book} (hb : bookOk b = true) (h : 0 < b.entries.length) : b.entries[0].index = b.base + 1 := by
 simp only [bookOk, Bool.and_eq_true] at hb
 have h6 := hb.2.2.2.2.2
 revert h6 h
 cases b.entries with
 | nil => intro h; simp at h
 | cons e es =>
  intro h h6
  simp only [Bool.and_eq_true, decide_eq_true_eq] at h6
  exact h6.1
theorem ent_ix {b : Book} (hb : bookOk b = true) : ∀ j (hj : j < b.entries.length), b.entries[j].index = b.base + 1 + j
 | 0, hj => by rw [book_first hb hj]; simp
 | j + 1, hj => by
  have h1 := (entriesOk_iff.1 (book_bd hb).2.2.2.2).2 (j + 1) hj
  rw [entStep_at hj, entOver_at hj om] at h1
  simp only [Bool.and_eq_true, decide_eq_true_eq] at h1
  have h2 := ent_ix hb j om
  have h3 : b.entries[j + 1].index = b.entries[j].index + 1 := h1.2.1
  rw [h3, h2]
  omega
theorem filt_run : ∀ (l : List Entry) (a c x : Int), a ≤ c → (∀ j (hj : j < l.length), l[j].index = c + j) → l.filter (fun e => inB e.index a x) = l.take (x - c + 1).toNat
 | [], a, c, x, _, _ => by simp
 | e :: t, a, c, x, ha, h => by
  have h0 : e.index = c := by have := h 0 (by simp); simpa using this
  have ih := filt_run t a (c + 1) x om fun j hj => by
   have := h (j + 1) (by simpa using hj)
   simp only [List.getElem_cons_succ] at this
   rw [this]; omega
  by_cases hx : c ≤ x
  ·rw [List.filter_cons_of_pos (by simp [inB, h0, ha, hx]), ih, show (x - c + 1).toNat = (x - (c + 1) + 1).toNat + 1 by omega, List.take_succ_cons]
  ·rw [List.filter_cons_of_neg (by simp [inB, h0, hx]), ih, show (x - c + 1).toNat = 0 by omega, show (x - (c + 1) + 1).toNat = 0 by omega]
   simp
theorem part_take {b : Book} (hb : bookOk b = true) (x : Int) : partF b (b.base + 1) x = b.entries.take (x - b.base).toNat := by
 unfold partF
 rw [filt_run b.entries (b.base + 1) (b.base + 1) x (Int.le_refl _) (ent_ix hb), show (x - (b.base + 1) + 1).toNat = (x - b.base).toNat by omega]
theorem over_prefix {l c : List Mark} {es : List Entry} (h : overL l es = some c) (m : Nat) : ∃ c', overL l (es.take m) = some c' := by
 cases h1 : overL l (es.take m) with
 | some c' => exact ⟨c', rfl⟩
 | none =>
  have := overL_none (es := es.drop m) h1
  rw [List.take_append_drop, h] at this
  cases this
theorem over_last {l c : List Mark} {es : List Entry} {m : Nat} (hs : SOk l) (hm : m < es.length) (h : overL l (es.take (m + 1)) = some c) : lastF c = es[m].index := by
 rw [List.take_succ_eq_append_getElem hm, overL_snoc] at h
 cases h1 : overL l (es.take m) with
 | none => rw [h1] at h; cases h
 | some c' =>
  rw [h1] at h
  simp only [Option.bind_some] at h
  split at h
  ·rename_i hf
   cases h
   exact (fresh_ok (over_sok hs h1) hf).2
  ·cases h
theorem so_some {l : List Mark} {es : List Entry} (h : (seenOverF l es).2 = true) : ∃ c, overL l es = some c := by
 unfold seenOverF at h
 split at h
 ·split at h
  ·split at h
   ·rename_i c hc; exact ⟨c, hc⟩
   ·cases h
  ·cases h
 ·cases h
theorem marks_eq {l m : List Mark} (h : eqN Mark.nums l m = true) : l = m := by
 have h1 : l.map Mark.nums = m.map Mark.nums := of_decide_eq_true h
 have key : ∀ {l m : List Mark}, l.map Mark.nums = m.map Mark.nums → l = m := by
  intro l
  induction l with
  | nil => intro m h; cases m with
   | nil => rfl
   | cons _ _ => simp at h
  | cons a l ih =>
   intro m h
   cases m with
   | nil => simp at h
   | cons b m =>
    simp only [List.map_cons, List.cons.injEq] at h
    rw [Mark.ext' h.1, ih h.2]
 exact key h1
theorem next_same {n : LogN} (hf : frontF n = true) (hm : midF n = true) (hmo : n.more = true) : (inB n.next.base (n.head.base + 1) n.durable && eqHd n.next (nextF n n.next.base)) = nextOkF n := by
 simp only [frontF, Bool.and_eq_true, decide_eq_true_eq] at hf
 simp only [midF, Bool.and_eq_true] at hm
 obtain ⟨_, hh, hb, he, _⟩ := hf
 obtain ⟨hso, _, hd⟩ := hm
 have hhd := head_bd hh
 have hbd := book_bd hb
 have hdd := inB_iff.1 hd
 by_cases hx : n.head.base < n.next.base ∧ n.next.base ≤ n.durable
 ·obtain ⟨m, hm1, hm2⟩ := at_get (b := n.book) (x := n.next.base) om om
  have hs := sok_of hhd.2.2.2.2
  obtain ⟨c, hc⟩ := so_some hso
  have htk : (n.next.base - n.book.base).toNat = m + 1 := by omega
  obtain ⟨c', hc'⟩ := over_prefix hc (m + 1)
  have hSO : seenOverF n.head.seen (n.book.entries.take (m + 1)) = (c', true) := so4 hhd.2.2.2.2 (by rw [List.length_take]; omega) hc'
  have hin : inB n.next.base (n.book.base + 1) (lastB n.book) = true := inB_iff.2 ⟨by omega, by omega⟩
  have hent : entAtF n.book n.next.base = (n.book.entries[m], true) := ent_yes hb hin hm1 hm2
  have htime : timeAtF n.book n.next.base = n.book.entries[m].time := by
   unfold timeAtF
   rw [if_neg om, atB_eq hm1 hm2]
  have hin2 : inB n.next.base (n.head.base + 1) n.durable = true := inB_iff.2 ⟨by omega, by omega⟩
  have hix := ent_ix hb m hm2
  have heo := ents_ok hbd.2.2.2.2 _ (List.getElem_mem hm2)
  have hix2 := entry_ix heo
  simp only [nextOkF, hmo, if_true, hin2, Bool.true_and, eqHd, nextF, part_take hb, htk, hSO, hent, htime, hx.1, hx.2, decide_true]
  by_cases h1 : n.next.num = n.head.num + 1
  ·by_cases h2 : n.next.time = n.book.entries[m].time
   ·cases h3 : eqN Mark.nums n.next.seen c'
    ·simp
    ·have h4 := marks_eq h3
     have h5 : headOk n.next = true := by
      have hto : timeOk n.book.entries[m].time = true := by
       simp only [entryOk, Bool.and_eq_true] at heo
       exact heo.2.1
      have hla := over_last hs hm2 hc'
      have hsc := of_sok (over_sok hs hc')
      have k1 : inB n.next.base 0 2000 = true := inB_iff.2 ⟨by omega, by omega⟩
      have k2 : inB n.next.num 0 n.next.base = true := inB_iff.2 ⟨by omega, by omega⟩
      have k3 : n.next.base > 0 := by omega
      have k4 : lastF n.next.seen = n.next.base := by rw [h4, hla, hix]; omega
      simp only [headOk, k1, k2, k3, k4, h2, hto, h4, hsc]
      rw [← h4, k4]
      simp
     simp [h1, h2, h5]
   ·simp [h2]
  ·simp [h1]
 ·have hA : inB n.next.base (n.head.base + 1) n.durable = false := by
   cases h9 : inB n.next.base (n.head.base + 1) n.durable with
   | false => rfl
   | true => have := inB_iff.1 h9; omega
  rw [hA, Bool.false_and]
  simp only [nextOkF, hmo, if_true]
  by_cases h1 : n.head.base < n.next.base
  ·have h2 : ¬ n.next.base ≤ n.durable := fun h => hx ⟨h1, h⟩
   simp [h2]
  ·simp [h1]
theorem log_facts {n : LogN} (h : logOkF n = true) : bookOk n.book = true ∧ inB n.durable n.book.base (lastB n.book) = true := by
 simp only [logOkF, frontF, midF, Bool.and_eq_true] at h
 exact ⟨h.1.2.2.1, h.2.1.2.2⟩
theorem ents_take {l : List Entry} (h : entriesOk l = true) (m : Nat) : entriesOk (l.take m) = true := by
 obtain ⟨h1, h2⟩ := entriesOk_iff.1 h
 refine entriesOk_iff.2 ⟨by rw [List.length_take]; omega, fun k hk => ?_⟩
 have hk1 : k < l.length := by rw [List.length_take] at hk; omega
 have hkm : k < m := by rw [List.length_take] at hk; omega
 have h3 := h2 k hk1
 rw [entStep_at hk1] at h3
 rw [entStep_at hk]
 cases k with
 | zero => simpa [entOver] using h3
 | succ j =>
  rw [entOver_at hk1 om] at h3
  rw [entOver_at hk om]
  simpa [List.getElem_take] using h3
theorem book_take {b : Book} (h : bookOk b = true) (m : Nat) : bookOk ⟨b.base, b.time, b.entries.take m⟩ = true := by
 have hbd := book_bd h
 have h9 := h
 simp only [bookOk, Bool.and_eq_true] at h9 ⊢
 refine ⟨h9.1, h9.2.1, h9.2.2.1, by rw [List.length_take]; simp; omega, ents_take hbd.2.2.2.2 m, ?_⟩
 have h6 := h9.2.2.2.2.2
 revert h6
 cases b.entries with
 | nil => intro _; simp
 | cons e es =>
  intro h6
  cases m with
  | zero => simp
  | succ m => simpa using h6
def pk (F : List Int) (i : Nat) : Nat → List Int
 | 0 => []
 | k + 1 => pk F i k ++ [F.getD (i + 2 * k) 0]
theorem pk_len (F : List Int) (i : Nat) : ∀ k, (pk F i k).length = k
 | 0 => rfl
 | k + 1 => by simp [pk, pk_len F i k]
theorem pk_at (F : List Int) (i : Nat) : ∀ m k, k < m → (pk F i m).getD k 0 = F.getD (i + 2 * k) 0
 | 0, k, h => by omega
 | m + 1, k, h => by
  have hl := pk_len F i m
  simp only [pk, List.getD_eq_getElem?_getD]
  rcases Nat.lt_or_ge k m with h1 | h1
  ·rw [List.getElem?_append_left om]
   have := pk_at F i m k h1
   simpa only [List.getD_eq_getElem?_getD] using this
  ·have : k = m := by omega
   subst this
   rw [List.getElem?_append_right om, hl]
   simp
theorem fate_pk {F : List Int} {i m k : Nat} (h : k < m ∨ F.length ≤ i + 2 * k) : fateAt (pk F i m) k = F.getD (i + 2 * k) 0 := by
 unfold fateAt
 rcases Nat.lt_or_ge k m with h1 | h1
 ·exact pk_at F i m k h1
 ·have h2 : F.length ≤ i + 2 * k := by omega
  simp only [List.getD_eq_getElem?_getD]
  rw [List.getElem?_eq_none (by rw [pk_len]; omega), List.getElem?_eq_none h2]
theorem fallUp_congr {d : Disk} {F G : List Int} {all : Bool} : ∀ k, (∀ j, j < k → fateAt F j = fateAt G j) → fallUp d F all k = fallUp d G all k
 | 0, _ => rfl
 | k + 1, h => by
  simp only [fallUp]
  rw [fallUp_congr k fun j hj => h j om, h k om]
theorem fallF_congr {d : Disk} {F G : List Int} {all : Bool} (h : ∀ j, j < 60 → fateAt F j = fateAt G j) : fallF d F all = fallF d G all := by
 cases hd : diskOk d
 ·rw [fall_no hd, fall_no hd]
 ·rw [fall_yes hd, fall_yes hd, fallUp_congr]
  intro j hj
  exact h j (by have := (diskOk_sizes hd).2.1; omega)
def halfN (F : List Int) (i : Nat) : Nat := (F.length + 1 - i) / 2
def half (F : List Int) (i : Nat) : List Int := pk F i (halfN F i)
def half60 (F : List Int) (i : Nat) : List Int := pk F i (min 60 (halfN F i))
theorem half_fall {d : Disk} {F : List Int} {i : Nat} : fallF d (half60 F i) false = fallF d (half F i) false := by
 refine fallF_congr fun j hj => ?_
 unfold half60 half halfN
 rw [fate_pk om, fate_pk om]
theorem pk_snoc {F : List Int} {i k m : Nat} (h : m = i + 2 * k) (hm : m < F.length) : pk F i k ++ [F[m]] = pk F i (k + 1) := by
 subst h
 simp only [pk]
 rw [List.getD_eq_getElem?_getD, List.getElem?_eq_getElem hm]
 rfl
def bothFallenF (t : Two) (F : List Int) : Two := if twoOk t then ⟨fallF t.a (half F 0) false, fallF t.b (half F 1) false⟩ else zeroT
theorem bf_no {t : Two} {F : List Int} (h : twoOk t = false) : bothFallenF t F = zeroT := by simp [bothFallenF, h]
theorem bf_yes {t : Two} {F : List Int} (h : twoOk t = true) : bothFallenF t F = ⟨fallF t.a (half F 0) false, fallF t.b (half F 1) false⟩ := by simp [bothFallenF, h]
theorem bf_yes60 {t : Two} {F : List Int} (h : twoOk t = true) : bothFallenF t F = ⟨fallF t.a (half60 F 0) false, fallF t.b (half60 F 1) false⟩ := by rw [bf_yes h, half_fall, half_fall]
def zeroL : LogN := ⟨zeroT, noHead, noHead, false, ⟨0, 0, []⟩, [], 0, []⟩
theorem c_BothFallen' (t : Two) (F : List Int) (hF : F.length ≤ 1048576) : Pure Try.prog 10 [many (twoC t), one (ints F)] [many' (twoR (bothFallenF t F))] := by
 refine pure_intro (N := 51) Try.func10 rfl rfl rfl rfl (fun H w => ?_)
 refine ev_lenm (t := 1) rfl (fun hL => ?_)
 refine sq (rg (evl_e (e_box rfl rfl rfl rfl) (evl_e (e_alloc ttOk rfl rfl rfl rfl) (nl (et (sq (sq (rg (xl ttOk rfl rfl (evl_call (nm := 12) (cf rfl) (c_TwoOk' t) (rs_of rfl) rfl rfl rfl (xo (q_not rfl) rfl (nl (et (ev_cond_n rfl (fun h1 => ?_) (fun h1 => ?_)))))))))))))))
 ·try have d1 := of_decide_eq_false h1
  refine sq (rg (xo (q_build ttOk rfl) rfl (xst ttOk rfl rfl (nl (et (ev_ret (evr_then (ret_pureN ttOk rfl rfl ?_))))))))
  first
  | (rw [bf_no ‹_›]; simp [RpLe, L2, RcLe, zeroD, zeroT]; done)
  | (rw [bf_yes60 ‹_›]; simp [RpLe, L2, RcLe]; done)
  | (rw [bf_yes ‹_›]; simp [RpLe, L2, RcLe, half, halfN]; done)
 ·try have d1 := of_decide_eq_true h1
  refine ev_skip (et (sq (rg (xo (q_build ttOk rfl) rfl (evl_e (e_alloc ttOk rfl rfl rfl rfl) (xst ttOk rfl rfl (nl (et (sq (sq (ev_adopt (b := 5) 0 101 2 1 rfl rfl rfl rfl rfl (ev_adopt (b := 5) 1 102 2 1 rfl rfl rfl rfl rfl (rg (xm rfl rfl (xo (q_len_map ttOk rfl rfl) rfl (xm rfl rfl (nl (et (ev_blk (ev_loop (fun k : Nat => (⟨[(18, iV k), (16, cV (ints F)), (17, iV F.length), (5, pbV 5 0), (2, pbV 2 0), (4, pbV 4 0)], [(5, 68, [.rt 101, .rt 102]), (4, 35, [.c .nil, .c .nil, .c .nil, .c .nil]), (2, 35, [.c (rows t.a.kept), .c (writes t.a.wait), .c (rows t.b.kept), .c (writes t.b.wait)])], [(101, 2, 1, ((pk F 0 ((k + 1) / 2)).map fun x => [iC x])), (102, 2, 1, ((pk F 1 (k / 2)).map fun x => [iC x]))], []⟩ : St)) (fun k => k ≤ F.length) (fun k => F.length - k) 0 [] (by simp) ⟨trf, trf, ⟨⟨_, rfl, by rfl⟩, ⟨_, rfl, by rfl⟩, trivial⟩, tre, rfl⟩ ?_))))))))))))))))))))
  intro k hp
  have p0 := hp
  show Ev _ _ _ _ (⟨[(18, iV k), (16, cV (ints F)), (17, iV F.length), (5, pbV 5 0), (2, pbV 2 0), (4, pbV 4 0)], [(5, 68, [.rt 101, .rt 102]), (4, 35, [.c .nil, .c .nil, .c .nil, .c .nil]), (2, 35, [.c (rows t.a.kept), .c (writes t.a.wait), .c (rows t.b.kept), .c (writes t.b.wait)])], [(101, 2, 1, ((pk F 0 ((k + 1) / 2)).map fun x => [iC x])), (102, 2, 1, ((pk F 1 (k / 2)).map fun x => [iC x]))], []⟩ : St)
  have hpl0 := pk_len F 0 ((k + 1) / 2)
  have hpl1 := pk_len F 1 (k / 2)
  refine sq (rg (xb ttOk rfl rfl (nl (et (sq (ev_cond rfl (fun h2 => ?_) (fun h2 => ?_)))))))
  ·try have d2 := of_decide_eq_true h2
   refine ev_skip (et (sq (ev_blk (sq (rg (xm rfl rfl (xo (q_ix_map ttOk rfl rfl rfl rfl om) rfl (xl ttOk rfl rfl (xs rfl rfl (xs rfl rfl (nl (et ?_))))))))))))
   rcases Nat.mod_two_eq_zero_or_one k with hpar | hpar
   ·refine rg (xm rfl rfl ?_)
    first | refine xo (q_rem_pos rfl rfl om) rfl ?_ | refine xo (q_rem rfl rfl om) rfl ?_
    refine xm rfl rfl ?_
    first | refine xo (q_rem_pos rfl rfl om) rfl ?_ | refine xo (q_rem rfl rfl om) rfl ?_
    first | refine xo (q_ix_arr 0 ttOk rfl rfl om) rfl ?_ | refine xo (q_ix_arr 1 ttOk rfl rfl om) rfl ?_
    refine xl ttOk rfl rfl (xm rfl rfl (evl_e (e_lit ttOk rfl rfl rfl) (evl_e (e_app ttOk rfl rfl rfl rfl rfl rfl rfl (by simp; omega) rfl rfl) ?_)))
    first | refine xo (q_ix_arr 0 ttOk rfl rfl om) rfl ?_ | refine xo (q_ix_arr 1 ttOk rfl rfl om) rfl ?_
    refine xst ttOk rfl rfl (nl (eb (et (rg (xa rfl rfl rfl om rfl (xm rfl rfl (nl (eve_round (k + 1) [(101, 31)] ?hp ⟨trf, trf, ⟨⟨_, rfl, by rw [show (k + 1 + 1) / 2 = (k + 1) / 2 + 1 by omega, ← pk_snoc (m := k) om om]; simp⟩, ⟨_, rfl, by rw [show (k + 1) / 2 = k / 2 by omega]⟩, trivial⟩, tre, rfl⟩))))))))
    case hp => exact ⟨by omega, by omega⟩
   ·refine rg (xm rfl rfl ?_)
    first | refine xo (q_rem_pos rfl rfl om) rfl ?_ | refine xo (q_rem rfl rfl om) rfl ?_
    refine xm rfl rfl ?_
    first | refine xo (q_rem_pos rfl rfl om) rfl ?_ | refine xo (q_rem rfl rfl om) rfl ?_
    first | refine xo (q_ix_arr 0 ttOk rfl rfl om) rfl ?_ | refine xo (q_ix_arr 1 ttOk rfl rfl om) rfl ?_
    refine xl ttOk rfl rfl (xm rfl rfl (evl_e (e_lit ttOk rfl rfl rfl) (evl_e (e_app ttOk rfl rfl rfl rfl rfl rfl rfl (by simp; omega) rfl rfl) ?_)))
    first | refine xo (q_ix_arr 0 ttOk rfl rfl om) rfl ?_ | refine xo (q_ix_arr 1 ttOk rfl rfl om) rfl ?_
    refine xst ttOk rfl rfl (nl (eb (et (rg (xa rfl rfl rfl om rfl (xm rfl rfl (nl (eve_round (k + 1) [(102, 31)] ?hp ⟨trf, trf, ⟨⟨_, rfl, by rw [show (k + 1 + 1) / 2 = (k + 1) / 2 by omega]⟩, ⟨_, rfl, by rw [show (k + 1) / 2 = k / 2 + 1 by omega, ← pk_snoc (m := k) om om]; simp⟩, trivial⟩, tre, rfl⟩))))))))
    case hp => exact ⟨by omega, by omega⟩
  ·try have d2 := of_decide_eq_false h2
   refine ev_exit (evx_then (evx_then (evx_hit (et (sq ?_)))))
   obtain rfl : k = F.length := by omega
   refine rg (xl ttOk rfl rfl (evl_callv (cf rfl) hands_disks rfl rfl rfl rfl (evl_e (e_alloc ttOk rfl rfl rfl rfl) (xst ttOk rfl rfl (nl (et (sq (sq (rg (xl ttOk rfl rfl (xm rfl rfl (nl (et (ev_blk (ev_rounds 2 (sq (rg (xb ttOk rfl rfl (nl (et (sq (ev_cond_kt rfl (by first | rfl | assumption | exact nt ‹_› | exact nf ‹_›) (ev_skip (et (sq (ev_blk (sq (rg (xm rfl rfl ?_)))))))))))))))))))))))))))))
   first | refine xo (q_index 0 ttOk rfl rfl om) rfl ?_ | refine xo (q_index 1 ttOk rfl rfl om) rfl ?_
   refine evl_e (e_alloc ttOk rfl rfl rfl rfl) (xs rfl rfl (xst ttOk rfl rfl (nl (et (ev_drawq [7] mo (rk0 0 rfl (q_move rfl) rfl (rk0 1 rfl (q_load ttOk rfl) rfl (rk0 2 rfl (q_move rfl) rfl ?_))))))))
   first | refine rk0 3 rfl (q_ix_arr 0 ttOk rfl rfl om) rfl ?_ | refine rk0 3 rfl (q_ix_arr 1 ttOk rfl rfl om) rfl ?_
   refine rk0 4 rfl (q_load ttOk rfl) rfl (rdk_one 5 kr ?_)
   first | refine rdo_call (nm := 46) rfl trivial (cf rfl) (c_Fallen' t.a (pk F 0 ((F.length + 1) / 2))) (rs_of rfl) rfl rfl rfl ?_ | refine rdo_call (nm := 46) rfl trivial (cf rfl) (c_Fallen' t.b (pk F 1 (F.length / 2))) (rs_of rfl) rfl rfl rfl ?_
   first | refine rk0 6 rfl (q_ix_arr 0 ttOk rfl rfl om) rfl ?_ | refine rk0 6 rfl (q_ix_arr 1 ttOk rfl rfl om) rfl ?_
   refine rdk_one 7 kr (rdo_brk rfl rfl trivial (e_store ttOk rfl) (rdb_endq kr (eb (et (rg (xa rfl rfl rfl om rfl (xm rfl rfl (nl (eve_again (ev_pr [2, 4, 5, 8, 36, 37] rfl (ev_remB [10] rfl (sq (rg (xb ttOk rfl rfl (nl (et (sq (ev_cond_kt rfl (by first | rfl | assumption | exact nt ‹_› | exact nf ‹_›) (ev_skip (et (sq (ev_blk (sq (rg (xm rfl rfl ?_)))))))))))))))))))))))))
   first | refine xo (q_index 0 ttOk rfl rfl om) rfl ?_ | refine xo (q_index 1 ttOk rfl rfl om) rfl ?_
   refine evl_e (e_alloc ttOk rfl rfl rfl rfl) (xs rfl rfl (xst ttOk rfl rfl (nl (et (ev_drawq [7] mo (rk0 0 rfl (q_move rfl) rfl (rk0 1 rfl (q_load ttOk rfl) rfl (rk0 2 rfl (q_move rfl) rfl ?_))))))))
   first | refine rk0 3 rfl (q_ix_arr 0 ttOk rfl rfl om) rfl ?_ | refine rk0 3 rfl (q_ix_arr 1 ttOk rfl rfl om) rfl ?_
   refine rk0 4 rfl (q_load ttOk rfl) rfl (rdk_one 5 kr ?_)
   first | refine rdo_call (nm := 1000046) rfl trivial (cf rfl) (c_Fallen' t.a (pk F 0 ((F.length + 1) / 2))) (rs_of rfl) rfl rfl rfl ?_ | refine rdo_call (nm := 1000046) rfl trivial (cf rfl) (c_Fallen' t.b (pk F 1 (F.length / 2))) (rs_of rfl) rfl rfl rfl ?_
   first | refine rk0 6 rfl (q_ix_arr 0 ttOk rfl rfl om) rfl ?_ | refine rk0 6 rfl (q_ix_arr 1 ttOk rfl rfl om) rfl ?_
   refine rdk_one 7 kr (rdo_brk rfl rfl trivial (e_store ttOk rfl) (rdb_endq kr (eb (et (rg (xa rfl rfl rfl om rfl (xm rfl rfl (nl (eve_again (ev_pr [2, 4, 5, 8, 36, 37] rfl (ev_remB [10] rfl (sq (rg (xb ttOk rfl rfl (nl (et (sq (ev_cond_kf rfl (by first | rfl | assumption | exact nt ‹_› | exact nf ‹_›) (ev_exit (evx_then (evx_then (evx_hit (et (sq (rg (xl ttOk rfl rfl (evl_callv (cf rfl) hands_twoOf rfl rfl rfl rfl (xst ttOk rfl rfl (nl (et (ev_ret (ret_pureN ttOk rfl rfl ?_))))))))))))))))))))))))))))))))
   first
   | (rw [bf_no ‹_›]; simp [RpLe, L2, RcLe, zeroD, zeroT]; done)
   | (rw [bf_yes60 ‹_›]; simp [RpLe, L2, RcLe]; done)
   | (rw [bf_yes ‹_›]; simp [RpLe, L2, RcLe, half, halfN]; done)
end Go.Proofs.Ytahkjonokeifmaa
