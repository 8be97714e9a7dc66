/- Walks of functions of the program, printed by a program of the prover. -/
import Derived.Test.YtahkjonokeifmaaGreatRaF29
import Derived.Test.YtahkjonokeifmaaGreatRaVY
namespace Go.Proofs.YtahkjonokeifmaaGreat
open Go.ChangeShapes Go.WideShapes Go.ChangeAt Go.RowKit
set_option linter.unusedVariables false
set_option linter.unusedSimpArgs false
set_option maxHeartbeats 1000000
set_option maxRecDepth 100000
attribute [local irreducible] EvL Ev EvE Quiet Eff Pure RDk RDb RDo
def ackF (e : Entry) : Ack := if entryOk e then ⟨e.client, e.seq, e.index, e.seq⟩ else ⟨0, 0, 0, 0⟩
def partF (b : Book) (x y : Int) : List Entry := b.entries.filter fun e => inB e.index x y
def lastB (b : Book) : Int := b.base + b.entries.length
theorem flat_marks (l : List Mark) : ∀ cs ∈ l.map markC, ∀ c ∈ cs, ∃ x, c = .v x := by
 intro cs h c hc
 obtain ⟨x, _, rfl⟩ := List.mem_map.1 h
 simp only [List.mem_cons, List.not_mem_nil, or_false] at hc
 rcases hc with rfl | rfl | rfl <;> exact ⟨_, rfl⟩
theorem book_bd {b : Book} (h : bookOk b = true) : 0 ≤ b.base ∧ b.base ≤ 2000 ∧ b.entries.length ≤ 20 ∧ timeOk b.time = true ∧ entriesOk b.entries = true := by
 simp only [bookOk, Bool.and_eq_true, decide_eq_true_eq] at h
 obtain ⟨h1, h2, h3, h4, h5, h6⟩ := h
 have := inB_iff.1 h1
 exact ⟨this.1, this.2, h4, h2, h5⟩
theorem c_l9Copy (l : List Mark) (h : l.length ≤ 1048576) : Pure Tryz.prog 105 [one (marks l)] [one' (marksR l)] := by
 refine pure_intro (N := 6) Tryz.func105 rfl rfl rfl rfl (fun H w => ?_)
 refine sq (rg (xs rfl rfl (nl (et (sq (rg (evl_e (e_lit ttOk rfl rfl rfl) (xm rfl rfl (evl_e (e_app_c ttOk rfl rfl rfl rfl rfl (flat_marks _) (by simp; omega) rfl rfl) (xs rfl rfl (nl (et (ev_ret (ret_pure' ttOk rfl rfl ?_))))))))))))))
 rfl
theorem c_copySeen (l : List Mark) (h : l.length ≤ 1048576) : Pure Tryz.prog 118 [one (marks l)] [one' (marksR l)] := by
 refine pure_intro (N := 6) Tryz.func118 rfl rfl rfl rfl (fun H w => ?_)
 refine sq (rg (xs rfl rfl (nl (et (sq (rg (evl_e (e_lit ttOk rfl rfl rfl) (xm rfl rfl (evl_e (e_app_c ttOk rfl rfl rfl rfl rfl (flat_marks _) (by simp; omega) rfl rfl) (xs rfl rfl (nl (et (ev_ret (ret_pure' ttOk rfl rfl ?_))))))))))))))
 rfl
theorem c_lastOf (b : Book) (h : bookOk b = true) : Pure Tryz.prog 48 [many (bookC b)] (iR (lastB b)) := by
 refine pure_intro (N := 9) Tryz.func48 rfl rfl rfl rfl (fun H w => ?_)
 have hb := book_bd h
 refine sq (rg (evl_e (e_box rfl rfl rfl rfl) (xs rfl rfl (nl (et (sq (rg (xf ttOk rfl rfl (xl ttOk rfl rfl (xf ttOk rfl rfl (xl ttOk rfl rfl (xo (q_len_map ttOk rfl rfl) rfl (xa rfl rfl rfl om rfl (xs rfl rfl (nl (et (ev_ret (ret_pure' ttOk rfl rfl ?_))))))))))))))))))
 rfl
def eMark (e : Entry) : Mark := ⟨e.client, e.seq, e.index⟩
def insF (l : List Mark) (m : Mark) : List Mark := l.filter (fun x => decide (x.client < m.client)) ++ m :: l.filter (fun x => decide (m.client < x.client))
structure SOk (l : List Mark) : Prop where
 ok : ∀ m ∈ l, markOk m = true
 srt : l.Pairwise fun a b => a.client < b.client
 ix : l.Pairwise fun a b => a.index ≠ b.index
theorem sok_of {l : List Mark} (h : seenOk l = true) : SOk l := by
 have hs := seenOk_iff.1 h
 have hst : ∀ k (hk : k < l.length), markOk l[k] = true ∧ hasIx (l.take k) l[k].index = false ∧ overB l k l[k] = true := fun k hk => by
  have := hs k hk
  rw [step_at hk] at this
  simpa [Bool.and_eq_true] using this
 refine ⟨fun m hm => ?_, List.pairwise_iff_getElem.2 fun i j hi hj hij => ?_, List.pairwise_iff_getElem.2 fun i j hi hj hij e => ?_⟩
 ·obtain ⟨k, hk, rfl⟩ := List.mem_iff_getElem.1 hm
  exact (hst k hk).1
 ·induction j with
  | zero => omega
  | succ j ih =>
   have h1 := (hst (j + 1) hj).2.2
   simp only [overB, List.getElem?_eq_getElem (show j < l.length by omega), decide_eq_true_eq] at h1
   rcases Nat.lt_or_ge i j with h2 | h2
   ·have := ih om h2
    omega
   ·have : i = j := by omega
    subst this
    exact h1
 ·have h1 := has_at hj hij e
  rw [(hst j hj).2.1] at h1
  cases h1
theorem of_sok {l : List Mark} (h : SOk l) : seenOk l = true := by
 refine seenOk_iff.2 fun k hk => ?_
 rw [step_at hk]
 have h1 := h.ok _ (List.getElem_mem hk)
 have h2 : hasIx (l.take k) l[k].index = false := by
  unfold hasIx
  rw [List.any_eq_false]
  intro m hm
  obtain ⟨j, hj, rfl⟩ := List.mem_iff_getElem.1 hm
  rw [List.getElem_take]
  have hj2 : j < k := by rw [List.length_take] at hj; omega
  simpa using List.pairwise_iff_getElem.1 h.ix j k om hk hj2
 have h3 : overB l k l[k] = true := by
  cases k with
  | zero => rfl
  | succ j =>
   simp only [overB, List.getElem?_eq_getElem (show j < l.length by omega), decide_eq_true_eq]
   exact List.pairwise_iff_getElem.1 h.srt j (j + 1) om hk om
 simp [h1, h2, h3]
theorem mem_ins {l : List Mark} {m x : Mark} : x ∈ insF l m ↔ x = m ∨ (x ∈ l ∧ x.client ≠ m.client) := by
 simp only [insF, List.mem_append, List.mem_cons, List.mem_filter, decide_eq_true_eq]
 constructor
 ·rintro (⟨h1, h2⟩ | h | ⟨h1, h2⟩)
  ·exact .inr ⟨h1, by omega⟩
  ·exact .inl h
  ·exact .inr ⟨h1, by omega⟩
 ·rintro (h | ⟨h1, h2⟩)
  ·exact .inr (.inl h)
  ·rcases Int.lt_or_gt_of_ne h2 with h3 | h3
   ·exact .inl ⟨h1, h3⟩
   ·exact .inr (.inr ⟨h1, h3⟩)
theorem SOk.ins {l : List Mark} {m : Mark} (h : SOk l) (hm : markOk m = true) (hi : ∀ x ∈ l, x.index ≠ m.index) : SOk (insF l m) := by
 refine ⟨fun x hx => ?_, ?_, ?_⟩
 ·rcases mem_ins.1 hx with rfl | ⟨h1, _⟩
  ·exact hm
  ·exact h.ok x h1
 ·unfold insF
  refine List.pairwise_append.2 ⟨h.srt.filter _, List.pairwise_cons.2 ⟨fun a ha => ?_, h.srt.filter _⟩, fun a ha b hb => ?_⟩
  ·simp only [List.mem_filter, decide_eq_true_eq] at ha; exact ha.2
  ·simp only [List.mem_cons, List.mem_filter, decide_eq_true_eq] at ha hb
   rcases hb with rfl | hb
   ·exact ha.2
   ·omega
 ·unfold insF
  refine List.pairwise_append.2 ⟨h.ix.filter _, List.pairwise_cons.2 ⟨fun a ha => ?_, h.ix.filter _⟩, fun a ha b hb => ?_⟩
  ·simp only [List.mem_filter] at ha; exact fun e => hi a ha.1 e.symm
  ·simp only [List.mem_cons, List.mem_filter, decide_eq_true_eq] at ha hb
   rcases hb with rfl | hb
   ·exact hi a ha.1
   ·have key : ∀ {l : List Mark}, l.Pairwise (fun a b => a.client < b.client) → l.Pairwise (fun a b => a.index ≠ b.index) → ∀ a ∈ l, ∀ b ∈ l, a.client < b.client → a.index ≠ b.index := by
     intro l
     induction l with
     | nil => intro _ _ a ha; simp at ha
     | cons y l ih =>
      intro h1 h2 a ha b hb hab
      rw [List.pairwise_cons] at h1 h2
      rcases List.mem_cons.1 ha with e1 | ha'
      ·rcases List.mem_cons.1 hb with e2 | hb'
       ·rw [e1, e2] at hab; omega
       ·rw [e1]; exact h2.1 b hb'
      ·rcases List.mem_cons.1 hb with e2 | hb'
       ·have := h1.1 a ha'; rw [e2] at hab; omega
       ·exact ih h1.2 h2.2 a ha' b hb' hab
    exact key h.srt h.ix a ha.1 b hb.1 om
theorem lastF_le {l : List Mark} {b : Int} : lastF l ≤ b ↔ 0 ≤ b ∧ ∀ x ∈ l, x.index ≤ b := by
 have key : ∀ (l : List Mark) (s : Int), l.foldl (fun s m => max s m.index) s ≤ b ↔ s ≤ b ∧ ∀ x ∈ l, x.index ≤ b := by
  intro l
  induction l with
  | nil => intro s; simp
  | cons a l ih =>
   intro s
   rw [List.foldl_cons, ih]
   simp only [List.mem_cons, forall_eq_or_imp]
   constructor
   ·rintro ⟨h1, h2⟩; exact ⟨by omega, by omega, h2⟩
   ·rintro ⟨h1, h2, h3⟩; exact ⟨by omega, h3⟩
 exact key l 0
theorem last_ins {l : List Mark} {m : Mark} (h : lastF l < m.index) : lastF (insF l m) = m.index := by
 have h0 := (lastF_le (l := l)).1 (Int.le_refl _)
 have h1 : lastF (insF l m) ≤ m.index := lastF_le.2 ⟨by omega, fun x hx => by
  rcases mem_ins.1 hx with rfl | ⟨h1, _⟩
  ·exact Int.le_refl _
  ·have := h0.2 x h1; omega⟩
 have h2 := (lastF_le.1 (Int.le_refl (lastF (insF l m)))).2 m (mem_ins.2 (.inl rfl))
 omega
theorem find_filter {α : Type} {p q : α → Bool} : ∀ {l : List α}, (l.filter p).find? q = l.find? fun x => p x && q x
 | [] => rfl
 | a :: l => by
  cases hp : p a
  ·rw [List.filter_cons_of_neg (by simp [hp]), List.find?_cons_of_neg (by simp [hp]), find_filter]
  ·rw [List.filter_cons_of_pos hp, List.find?_cons, List.find?_cons, find_filter]
   simp [hp]
theorem find_ins {l : List Mark} {m : Mark} {q : Int} : (insF l m).find? (fun x => decide (x.client = q)) = if q = m.client then some m else l.find? fun x => decide (x.client = q) := by
 unfold insF
 rw [List.find?_append, find_filter, List.find?_cons, find_filter]
 by_cases h : q = m.client
 ·subst h
  rw [if_pos rfl, List.find?_eq_none.2 (by intro x _; simp; omega)]
  simp
 ·rw [if_neg h]
  have hm : decide (m.client = q) = false := decide_eq_false fun e => h e.symm
  rw [hm]
  rcases Int.lt_or_gt_of_ne h with h2 | h2
  ·have e1 : (fun x : Mark => decide (x.client < m.client) && decide (x.client = q)) = fun x => decide (x.client = q) := by
    funext x
    by_cases hx : x.client = q
    ·simp [hx, h2]
    ·simp [hx]
   have e2 : l.find? (fun x : Mark => decide (m.client < x.client) && decide (x.client = q)) = none := List.find?_eq_none.2 (by intro x _; simp; omega)
   rw [e1, e2]
   simp
  ·have e1 : (fun x : Mark => decide (m.client < x.client) && decide (x.client = q)) = fun x => decide (x.client = q) := by
    funext x
    by_cases hx : x.client = q
    ·simp [hx, h2]
    ·simp [hx]
   have e2 : l.find? (fun x : Mark => decide (x.client < m.client) && decide (x.client = q)) = none := List.find?_eq_none.2 (by intro x _; simp; omega)
   rw [e1, e2]
   simp
theorem filter_up {l : List Mark} (h : l.Pairwise fun a b => a.client < b.client) (c : Int) : l.filter (fun x => decide (x.client < c + 1)) = l.filter (fun x => decide (x.client < c)) ++ (l.find? fun x => decide (x.client = c)).toList := by
 induction l with
 | nil => rfl
 | cons a l ih =>
  rw [List.pairwise_cons] at h
  have hn : ∀ d, d ≤ a.client → l.filter (fun x => decide (x.client < d)) = [] := fun d hd => List.filter_eq_nil_iff.2 fun x hx => by have := h.1 x hx; simp; omega
  rcases Int.lt_trichotomy a.client c with h1 | h1 | h1
  ·rw [List.filter_cons_of_pos (by simp; omega), List.filter_cons_of_pos (by simpa using h1), List.find?_cons_of_neg (by simp; omega), ih h.2]
   rfl
  ·rw [List.filter_cons_of_pos (by simp; omega), List.filter_cons_of_neg (by simp; omega), List.find?_cons_of_pos (by simpa using h1), hn c om]
   have : l.filter (fun x => decide (x.client < c + 1)) = [] := List.filter_eq_nil_iff.2 fun x hx => by have := h.1 x hx; simp; omega
   rw [this]; rfl
  ·rw [List.filter_cons_of_neg (by simp; omega), List.filter_cons_of_neg (by simp; omega), List.find?_cons_of_neg (by simp; omega), hn c om, hn (c + 1) om]
   have : l.find? (fun x => decide (x.client = c)) = none := List.find?_eq_none.2 fun x hx => by have := h.1 x hx; simp; omega
   rw [this]; rfl
def outF (l : List Mark) (k : Nat) : List Mark := l.filter fun x => decide (x.client < 2 + (k : Int))
theorem outF_next {l : List Mark} (h : SOk l) (k : Nat) : outF l (k + 1) = outF l k ++ (l.find? fun x => decide (x.client = 2 + (k : Int))).toList := by
 unfold outF
 rw [← filter_up h.srt, show (2 : Int) + (k + 1 : Nat) = 2 + k + 1 by omega]
theorem mark_bd {m : Mark} (h : markOk m = true) : 2 ≤ m.client ∧ m.client ≤ 5 := by
 simp only [markOk, askerOk, inB, Bool.and_eq_true, decide_eq_true_eq] at h
 omega
theorem outF_zero {l : List Mark} (h : SOk l) : outF l 0 = [] := List.filter_eq_nil_iff.2 fun x hx => by have := mark_bd (h.ok x hx); simp; omega
theorem outF_all {l : List Mark} (h : SOk l) : outF l 4 = l := List.filter_eq_self.2 fun x hx => by have := mark_bd (h.ok x hx); simp; omega
def mkInv (l : List Mark) (m : Mark) (k : Nat) (o : List Mark) (dn : Bool) : Prop :=
 if dn then o = insF (l.take k) m ∧ ∃ x ∈ l.take k, m.client ≤ x.client else o = l.take k ∧ ∀ x ∈ l.take k, x.client < m.client
theorem mkInv0 {l : List Mark} {m : Mark} : mkInv l m 0 [] false := ⟨by simp, by simp⟩
theorem ins_snoc {l : List Mark} {m x : Mark} (h : m.client < x.client) : insF (l ++ [x]) m = insF l m ++ [x] := by
 simp [insF, List.filter_append, h, show ¬ x.client < m.client by omega]
theorem ins_same {l : List Mark} {m x : Mark} (h : m.client = x.client) : insF (l ++ [x]) m = insF l m := by
 simp [insF, List.filter_append, h]
theorem ins_all {l : List Mark} {m : Mark} (h : ∀ x ∈ l, x.client < m.client) : insF l m = l ++ [m] := by
 unfold insF
 rw [List.filter_eq_self.2 (by simpa using h), List.filter_eq_nil_iff.2 (by intro x hx; have := h x hx; simp; omega)]
theorem mkInv1 {l : List Mark} {m : Mark} {k : Nat} {o : List Mark} (hk : k < l.length) (h : mkInv l m k o false) (h1 : l[k].client ≥ m.client) (h2 : l[k].client ≠ m.client) : mkInv l m (k + 1) (o ++ [m] ++ [l[k]]) true := by
 obtain ⟨rfl, h3⟩ := h
 refine ⟨?_, l[k], ?_, h1⟩
 ·rw [List.take_succ_eq_append_getElem hk, ins_snoc om, ins_all h3]
 ·rw [List.take_succ_eq_append_getElem hk]; exact List.mem_append_right _ (List.mem_singleton.2 rfl)
theorem mkInv2 {l : List Mark} {m : Mark} {k : Nat} {o : List Mark} (hk : k < l.length) (h : mkInv l m k o false) (h2 : l[k].client = m.client) : mkInv l m (k + 1) (o ++ [m]) true := by
 obtain ⟨rfl, h3⟩ := h
 refine ⟨?_, l[k], ?_, by omega⟩
 ·rw [List.take_succ_eq_append_getElem hk, ins_same h2.symm, ins_all h3]
 ·rw [List.take_succ_eq_append_getElem hk]; exact List.mem_append_right _ (List.mem_singleton.2 rfl)
theorem mk_over {l : List Mark} {m : Mark} {k : Nat} {o : List Mark} (hs : SOk l) (hk : k < l.length) (h : mkInv l m k o true) : m.client < l[k].client := by
 obtain ⟨_, x, hx, h1⟩ := h
 obtain ⟨j, hj, rfl⟩ := List.mem_iff_getElem.1 hx
 rw [List.getElem_take] at h1
 have hj2 : j < k := by rw [List.length_take] at hj; omega
 have := List.pairwise_iff_getElem.1 hs.srt j k om hk hj2
 omega
theorem mkInv3 {l : List Mark} {m : Mark} {k : Nat} {o : List Mark} (hs : SOk l) (hk : k < l.length) (h : mkInv l m k o true) : mkInv l m (k + 1) (o ++ [l[k]]) true := by
 have h0 := mk_over hs hk h
 obtain ⟨rfl, x, hx, h1⟩ := h
 refine ⟨?_, x, ?_, h1⟩
 ·rw [List.take_succ_eq_append_getElem hk, ins_snoc h0]
 ·rw [List.take_succ_eq_append_getElem hk]; exact List.mem_append_left _ hx
theorem mkInv4 {l : List Mark} {m : Mark} {k : Nat} {o : List Mark} (hk : k < l.length) (h : mkInv l m k o false) (h1 : l[k].client < m.client) : mkInv l m (k + 1) (o ++ [l[k]]) false := by
 obtain ⟨rfl, h3⟩ := h
 refine ⟨(List.take_succ_eq_append_getElem hk).symm, fun x hx => ?_⟩
 rw [List.take_succ_eq_append_getElem hk] at hx
 rcases List.mem_append.1 hx with hx | hx
 ·exact h3 x hx
 ·rw [List.mem_singleton.1 hx]; exact h1
theorem mkEnd1 {l : List Mark} {m : Mark} {k : Nat} {o : List Mark} (hk : ¬ k < l.length) (h : mkInv l m k o true) : o = insF l m := by
 have := h.1
 rwa [List.take_of_length_le om] at this
theorem mkEnd2 {l : List Mark} {m : Mark} {k : Nat} {o : List Mark} (hk : ¬ k < l.length) (h : mkInv l m k o false) : o ++ [m] = insF l m := by
 obtain ⟨rfl, h3⟩ := h
 rw [List.take_of_length_le om] at h3 ⊢
 exact (ins_all h3).symm
def freshF (l : List Mark) (e : Entry) : Bool := entryOk e && (decide ((findM l e.client).seq < e.seq) && decide (lastF l < e.index))
def overL (l : List Mark) : List Entry → Option (List Mark)
 | [] => some l
 | e :: es => if freshF l e then overL (insF l (eMark e)) es else none
theorem eMark_ok {e : Entry} (h : entryOk e = true) : markOk (eMark e) = true := by
 simp only [entryOk, Bool.and_eq_true] at h
 simp [markOk, eMark, h.1, h.2.2.1, h.2.2.2.1]
theorem fresh_ok {l : List Mark} {e : Entry} (h : SOk l) (hf : freshF l e = true) : SOk (insF l (eMark e)) ∧ lastF (insF l (eMark e)) = e.index := by
 simp only [freshF, Bool.and_eq_true, decide_eq_true_eq] at hf
 refine ⟨h.ins (eMark_ok hf.1) fun x hx => ?_, last_ins (m := eMark e) hf.2.2⟩
 have := (lastF_le.1 (Int.le_refl (lastF l))).2 x hx
 show x.index ≠ e.index
 omega
theorem overL_snoc {e : Entry} : ∀ {es : List Entry} {l : List Mark}, overL l (es ++ [e]) = (overL l es).bind fun c => if freshF c e then some (insF c (eMark e)) else none
 | [], l => by simp [overL]
 | a :: es, l => by
  simp only [List.cons_append, overL]
  split
  ·exact overL_snoc
  ·rfl
theorem overL_none {es : List Entry} : ∀ {fs : List Entry} {l : List Mark}, overL l fs = none → overL l (fs ++ es) = none
 | [], l, h => by simp [overL] at h
 | a :: fs, l, h => by
  simp only [List.cons_append, overL] at h ⊢
  split at h
  ·rename_i hf; rw [if_pos hf]; exact overL_none h
  ·rename_i hf; rw [if_neg hf]
theorem over_no {l c : List Mark} {es : List Entry} {k : Nat} (hk : k < es.length) (h : overL l (es.take k) = some c) (hf : freshF c es[k] = false) : overL l es = none := by
 have h1 : overL l (es.take (k + 1)) = none := by rw [List.take_succ_eq_append_getElem hk, overL_snoc, h]; simp [hf]
 have := overL_none (es := es.drop (k + 1)) h1
 rwa [List.take_append_drop] at this
theorem over_yes {l c : List Mark} {es : List Entry} {k : Nat} (hk : k < es.length) (h : overL l (es.take k) = some c) (hf : freshF c es[k] = true) : overL l (es.take (k + 1)) = some (insF c (eMark es[k])) := by
 rw [List.take_succ_eq_append_getElem hk, overL_snoc, h]; simp [hf]
theorem over_end {l c : List Mark} {es : List Entry} {k : Nat} (hk : ¬ k < es.length) (h : overL l (es.take k) = some c) : overL l es = some c := by rwa [List.take_of_length_le om] at h
theorem over_sok {es : List Entry} : ∀ {l c : List Mark}, SOk l → overL l es = some c → SOk c := by
 induction es with
 | nil => intro l c h hc; cases hc; exact h
 | cons e es ih =>
  intro l c h hc
  unfold overL at hc
  split at hc
  ·rename_i hf; exact ih (fresh_ok h hf).1 hc
  ·cases hc
def seenOverF (l : List Mark) (es : List Entry) : List Mark × Bool := if seenOk l = true then if es.length ≤ 2000 then match overL l es with
 | some c => (c, true)
 | none => (l, false) else (l, false) else ([], false)
theorem so1 {l : List Mark} {es : List Entry} (h : seenOk l = false) : seenOverF l es = ([], false) := by simp [seenOverF, h]
theorem so2 {l : List Mark} {es : List Entry} (h : seenOk l = true) (h2 : 2000 < es.length) : seenOverF l es = (l, false) := by
 have : ¬ es.length ≤ 2000 := by omega
 simp [seenOverF, h, this]
theorem so3 {l : List Mark} {es : List Entry} (h : seenOk l = true) (h2 : overL l es = none) : seenOverF l es = (l, false) := by
 simp only [seenOverF, h, h2]
 simp
theorem so4 {l c : List Mark} {es : List Entry} (h : seenOk l = true) (h1 : es.length ≤ 2000) (h2 : overL l es = some c) : seenOverF l es = (c, true) := by simp [seenOverF, h, h1, h2]
def markedF (l : List Mark) (e : Entry) : List Mark × Bool := if seenOk l = true then if freshF l e then (insF l (eMark e), true) else (l, false) else ([], false)
theorem ins_len {l : List Mark} {m : Mark} : (insF l m).length ≤ l.length + 1 := by
 induction l with
 | nil => simp [insF]
 | cons a l ih =>
  simp only [insF, List.length_append, List.length_cons, List.filter_cons] at ih ⊢
  by_cases h1 : a.client < m.client
  ·have h2 : ¬ m.client < a.client := by omega
   simp only [h1, h2, decide_true, decide_false, if_true, List.length_cons]
   simp
   omega
  ·by_cases h2 : m.client < a.client
   ·simp only [h1, h2, decide_true, decide_false, if_true, List.length_cons]
    simp
    omega
   ·simp only [h1, h2, decide_false]
    simp
    omega
theorem mkInv_len {l : List Mark} {m : Mark} {k : Nat} {o : List Mark} {dn : Bool} (h : mkInv l m k o dn) : o.length ≤ k + 1 := by
 cases dn
 ·rw [h.1, List.length_take]; omega
 ·rw [h.1]
  have := ins_len (l := l.take k) (m := m)
  rw [List.length_take] at this
  omega
def freshIn (l : List Mark) (c s : Int) : Bool := seenOk l && (askerOk c && (seqOk s && decide (s > (findM l c).seq)))
theorem mk_no0 {l : List Mark} {e : Entry} (h : seenOk l = false) : markedF l e = ([], false) := by simp [markedF, h]
theorem mk_no {l : List Mark} {e : Entry} (h : seenOk l = true) (hf : freshF l e = false) : markedF l e = (l, false) := by simp [markedF, h, hf]
theorem mk_yes {l : List Mark} {e : Entry} (h : seenOk l = true) (hf : freshF l e = true) : markedF l e = (insF l (eMark e), true) := by simp [markedF, h, hf]
theorem fresh_no1 {l : List Mark} {e : Entry} (h : entryOk e = false) : freshF l e = false := by simp [freshF, h]
theorem fresh_no2 {l : List Mark} {e : Entry} (hs : seenOk l = true) (h0 : entryOk e = true) (h : freshIn l e.client e.seq = false) : freshF l e = false := by
 have h1 := h0
 simp only [entryOk, Bool.and_eq_true] at h1
 simp only [freshIn, hs, h1.2.2.1, h1.2.2.2.1, Bool.true_and, decide_eq_false_iff_not] at h
 simp only [freshF, h0, Bool.true_and, Bool.and_eq_false_iff, decide_eq_false_iff_not]
 exact .inl om
theorem fresh_no3 {l : List Mark} {e : Entry} (h : e.index ≤ lastF l) : freshF l e = false := by
 have : ¬ lastF l < e.index := by omega
 simp [freshF, this]
theorem fresh_no4 {l : List Mark} {e : Entry} (h : e.seq ≤ (findM l e.client).seq) : freshF l e = false := by
 have : ¬ (findM l e.client).seq < e.seq := by omega
 simp [freshF, this]
theorem fresh_yes {l : List Mark} {e : Entry} (h1 : entryOk e = true) (h2 : freshIn l e.client e.seq = true) (h3 : ¬ e.index ≤ lastF l) : freshF l e = true := by
 simp only [freshIn, Bool.and_eq_true, decide_eq_true_eq] at h2
 have h4 : lastF l < e.index := by omega
 have h5 : (findM l e.client).seq < e.seq := by omega
 simp [freshF, h1, h4, h5]
theorem fresh_yes2 {l : List Mark} {e : Entry} (h1 : entryOk e = true) (h2 : ¬ e.seq ≤ (findM l e.client).seq) (h3 : ¬ e.index ≤ lastF l) : freshF l e = true := by
 have h4 : lastF l < e.index := by omega
 have h5 : (findM l e.client).seq < e.seq := by omega
 simp [freshF, h1, h4, h5]
theorem marked_snd {l : List Mark} {e : Entry} (h : seenOk l = true) : (markedF l e).2 = freshF l e := by
 cases hf : freshF l e
 ·rw [mk_no h hf]
 ·rw [mk_yes h hf]
theorem over_marked {l c : List Mark} {es : List Entry} {k : Nat} (hs : SOk l) (hk : k < es.length) (h : overL l (es.take k) = some c) (h2 : (markedF c es[k]).2 = true) : overL l (es.take (k + 1)) = some (markedF c es[k]).1 := by
 have hc := of_sok (over_sok hs h)
 have hf : freshF c es[k] = true := by rw [← marked_snd hc]; exact h2
 rw [over_yes hk h hf, mk_yes hc hf]
theorem over_stop {l c : List Mark} {es : List Entry} {k : Nat} (hs : SOk l) (hk : k < es.length) (h : overL l (es.take k) = some c) (h2 : (markedF c es[k]).2 = false) : overL l es = none :=
 over_no hk h (by rw [← marked_snd (of_sok (over_sok hs h))]; exact h2)
def markV (m : Mark) : Value := .agg #[.int .i64 m.client, .int .i64 m.seq, .int .i64 m.index]
def mapF (c : List Mark) : Int → Option Value := fun q => (c.find? fun x => decide (x.client = q)).map markV
theorem mapA_next {l : List Mark} (hs : SOk l) {k : Nat} (hk : k < l.length) (q : Int) : mapF (l.take (k + 1)) q = if q = l[k].client then some (mkV true [.int .i64 l[k].client, .int .i64 l[k].seq, .int .i64 l[k].index]) else mapF (l.take k) q := by
 unfold mapF
 rw [List.take_succ_eq_append_getElem hk, List.find?_append]
 by_cases h : q = l[k].client
 ·rw [if_pos h]
  have : (l.take k).find? (fun x => decide (x.client = q)) = none := List.find?_eq_none.2 fun x hx => by
   obtain ⟨j, hj, rfl⟩ := List.mem_iff_getElem.1 hx
   rw [List.getElem_take]
   have hj2 : j < k := by rw [List.length_take] at hj; omega
   have := List.pairwise_iff_getElem.1 hs.srt j k om hk hj2
   simp only [decide_eq_true_eq]
   omega
  rw [this, List.find?_cons_of_pos (by simpa using h.symm)]
  rfl
 ·rw [if_neg h, List.find?_cons_of_neg (by simpa using fun e : l[k].client = q => h e.symm)]
  simp
theorem mapB_next (c : List Mark) (e : Entry) (q : Int) : mapF (insF c (eMark e)) q = if q = e.client then some (mkV true [.int .i64 e.client, .int .i64 e.seq, .int .i64 e.index]) else if q = e.client then none else mapF c q := by
 unfold mapF
 rw [find_ins]
 by_cases h : q = e.client
 ·rw [if_pos h, if_pos (show q = (eMark e).client from h)]; rfl
 ·rw [if_neg h, if_neg h, if_neg (show ¬ q = (eMark e).client from h)]
theorem look_at (c : List Mark) (q : Int) : (mapF c q).getD (.agg [Value.int .i64 0, .int .i64 0, .int .i64 0].toArray) = .agg [Value.int .i64 (findM c q).client, .int .i64 (findM c q).seq, .int .i64 (findM c q).index].toArray := by
 unfold mapF findM
 cases c.find? (fun x => decide (x.client = q)) <;> rfl
theorem look_some (c : List Mark) (q : Int) : (mapF c q).isSome = (c.find? fun x => decide (x.client = q)).isSome := by
 unfold mapF
 cases c.find? (fun x => decide (x.client = q)) <;> rfl
theorem mark_one (m : Mark) : ∀ u ∈ [Value.int .i64 m.client, .int .i64 m.seq, .int .i64 m.index], u.oneCell' = true := by
 intro u hu
 simp only [List.mem_cons, List.not_mem_nil, or_false] at hu
 rcases hu with rfl | rfl | rfl <;> rfl
theorem out_yes {c : List Mark} {k : Nat} {z : Int} (hs : SOk c) (hz : z = (k : Int) + 2) (h : (c.find? fun x => decide (x.client = z)).isSome = true) : (outF c k).map markC ++ [[iC (findM c z).client, iC (findM c z).seq, iC (findM c z).index]] = (outF c (k + 1)).map markC := by
 obtain ⟨m, hm⟩ := Option.isSome_iff_exists.1 h
 have e : findM c z = m := by unfold findM; rw [hm]; rfl
 rw [outF_next hs, show (2 : Int) + k = z by omega, hm, e]
 simp
theorem out_no {c : List Mark} {k : Nat} {z : Int} (hs : SOk c) (hz : z = (k : Int) + 2) (h : (c.find? fun x => decide (x.client = z)).isSome = false) : (outF c k).map markC = (outF c (k + 1)).map markC := by
 have hm : c.find? (fun x => decide (x.client = z)) = none := by simpa using h
 rw [outF_next hs, show (2 : Int) + k = z by omega, hm]
 simp
theorem c_FreshIn (l : List Mark) (c x : Int) : Pure Tryz.prog 136 [one (marks l), one (iC c), one (iC x)] (bR (freshIn l c x)) := by
 refine pure_intro (N := 25) Tryz.func136 rfl rfl rfl rfl (fun H w => ?_)
 refine sq (rg (xs rfl rfl (nl (et (sq (rg (xm rfl rfl (evl_call (nm := 8) (cf rfl) (c_SeenOk l) (rs_of rfl) rfl rfl rfl (xm rfl rfl (evl_part rfl rfl (fun h1 => ?_) (fun h1 => ?_)))))))))))
 ·refine gm h1 rfl rfl rfl rfl (evl_callg rfl rfl h1 (nm := 11) (cf rfl) (c_AskerOk _) (rs_of rfl) rfl rfl rfl (xo (q_pick_t rfl h1 rfl) rfl (xm rfl rfl (evl_part rfl rfl (fun h2 => ?_) (fun h2 => ?_)))))
  ·refine gm h2 rfl rfl rfl rfl (evl_callg rfl rfl h2 (nm := 15) (cf rfl) (c_seqOk _) (rs_of rfl) rfl rfl rfl (xo (q_pick_t rfl h2 rfl) rfl (xm rfl rfl (evl_part rfl rfl (fun h3 => ?_) (fun h3 => ?_)))))
   ·refine gm h3 rfl rfl rfl rfl (gm h3 rfl rfl rfl rfl (gm h3 rfl rfl rfl rfl (evl_callg rfl rfl h3 (nm := 21) (cf rfl) (c_MarkOf2 l c ‹_›) (rs_of rfl) rfl rfl rfl (go h3 rfl rfl (q_field ttOk rfl) rfl (go h3 rfl rfl (q_bin ttOk rfl) rfl (xo (q_pick_t rfl h3 rfl) rfl (xs rfl rfl (nl (et (ev_ret (ret_pure' ttOk rfl rfl (congrArg bR (?_ : _ = _)))))))))))))
    simp_all [freshIn]
   ·refine gn h3 rfl rfl rfl (gn h3 rfl rfl rfl (gn h3 rfl rfl rfl (gn h3 rfl rfl rfl (gn h3 rfl rfl rfl (gn h3 rfl rfl rfl (xo (q_pick_f rfl h3 rfl) rfl (xs rfl rfl (nl (et (ev_ret (ret_pure' ttOk rfl rfl (congrArg bR (?_ : _ = _)))))))))))))
    simp_all [freshIn]
  ·refine gn h2 rfl rfl rfl (gn h2 rfl rfl rfl (xo (q_pick_f rfl h2 rfl) rfl (xm rfl rfl (gn rfl rfl rfl rfl (gn rfl rfl rfl rfl (gn rfl rfl rfl rfl (gn rfl rfl rfl rfl (gn rfl rfl rfl rfl (gn rfl rfl rfl rfl (xo (q_pick_f rfl rfl rfl) rfl (xs rfl rfl (nl (et (ev_ret (ret_pure' ttOk rfl rfl (congrArg bR (?_ : _ = _)))))))))))))))))
   simp_all [freshIn]
 ·refine gn h1 rfl rfl rfl (gn h1 rfl rfl rfl (xo (q_pick_f rfl h1 rfl) rfl (xm rfl rfl (gn rfl rfl rfl rfl (gn rfl rfl rfl rfl (xo (q_pick_f rfl rfl rfl) rfl (xm rfl rfl (gn rfl rfl rfl rfl (gn rfl rfl rfl rfl (gn rfl rfl rfl rfl (gn rfl rfl rfl rfl (gn rfl rfl rfl rfl (gn rfl rfl rfl rfl (xo (q_pick_f rfl rfl rfl) rfl (xs rfl rfl (nl (et (ev_ret (ret_pure' ttOk rfl rfl (congrArg bR (?_ : _ = _)))))))))))))))))))))
  simp_all [freshIn]
theorem c_LastSeen2 (l : List Mark) (h : seenOk l = true) : Pure Tryz.prog 95 [one (marks l)] (iR (lastF l)) := by
 have := c_LastSeen l
 rw [h] at this
 exact this
theorem c_Marked (l : List Mark) (e : Entry) : Pure Tryz.prog 109 [one (marks l), many (entryC e)] [one' (marksR (markedF l e).1), one' (RC.v (.bool (markedF l e).2))] := by
 refine pure_intro (N := 87) Tryz.func109 rfl rfl rfl rfl (fun H w => ?_)
 refine ev_lenm (t := 0) rfl (fun hL => ?_)
 refine sq (rg (evl_e (e_box rfl rfl rfl rfl) (xs rfl rfl (xs rfl rfl (nl (et (sq (sq (rg (xm rfl rfl (evl_call (nm := 11) (cf rfl) (c_SeenOk l) (rs_of rfl) rfl rfl rfl (xo (q_not rfl) rfl (nl (et (ev_cond_n rfl (fun h1 => ?_) (fun h1 => ?_))))))))))))))))
 try have d1 := of_decide_eq_false h1
 refine sq (rg (evl_e (e_lit ttOk rfl rfl rfl) (xs rfl rfl (xs rfl rfl (nl (et (ev_ret (evr_then (ret_pureN ttOk rfl rfl ?_)))))))))
 rotate_left
 try have d1 := of_decide_eq_true h1
 have hl4 := seen_len h1
 have hso := sok_of h1
 refine ev_skip (et (sq (sq (ev_drawq [] mo (rk0 0 rfl (q_load ttOk rfl) rfl (rdk_one 1 kr (rdo_call (nm := 15) rfl trivial (cf rfl) (c_EntryOk e) (rs_of rfl) rfl rfl rfl (rk0 2 rfl (q_not rfl) rfl (rk0 3 rfl (q_move rfl) rfl (rdk_partn (t := 17) rfl (fun h2 => ?_) (fun h2 => ?_)))))))))))
 try have d2 := of_decide_eq_false h2
 refine rdk_skip 4 rfl kr ⟨_, rfl, .inl ⟨_, rfl, (nt h2)⟩⟩ rfl (rdk_skip 5 rfl kr ⟨_, rfl, .inl ⟨_, rfl, (nt h2)⟩⟩ rfl (rdk_skip 6 rfl kr ⟨_, rfl, .inl ⟨_, rfl, (nt h2)⟩⟩ rfl (rdk_skip 7 rfl kr ⟨_, rfl, .inl ⟨_, rfl, (nt h2)⟩⟩ rfl (rdk_skip 8 rfl kr ⟨_, rfl, .inl ⟨_, rfl, (nt h2)⟩⟩ rfl (rdk_skip 9 rfl kr ⟨_, rfl, .inl ⟨_, rfl, (nt h2)⟩⟩ rfl (rdk_skip 10 rfl kr ⟨_, rfl, .inl ⟨_, rfl, (nt h2)⟩⟩ rfl (rk0 11 rfl (q_pick_t rfl (nt h2) rfl) rfl (rk0 12 rfl (q_move rfl) rfl (rks 13 rfl rfl rfl rfl rfl (rks 14 rfl rfl rfl rfl rfl (rks 15 rfl rfl rfl rfl rfl (rks 16 rfl rfl rfl rfl rfl (rks 17 rfl rfl rfl rfl rfl (rk0 18 rfl (q_pick_t rfl rfl rfl) rfl (rdk_endq kr (et (ev_cond_kt rfl rfl (sq (rg (xm rfl rfl (evl_call (nm := 34) (cf rfl) (c_l9Copy l om) (rs_of rfl) rfl rfl rfl (xs rfl rfl (xs rfl rfl (nl (et (ev_ret (evr_then (ret_pureN ttOk rfl rfl ?_))))))))))))))))))))))))))))
 rotate_left
 try have d2 := of_decide_eq_true h2
 refine rdk_take 4 rfl kr ⟨_, _, rfl, rfl, (nf h2)⟩ (q_move rfl) rfl (rdk_take 5 rfl kr ⟨_, _, rfl, rfl, (nf h2)⟩ (q_fieldAddr ttOk rfl) rfl (rdk_take 6 rfl kr ⟨_, _, rfl, rfl, (nf h2)⟩ (q_load ttOk rfl) rfl (rdk_take 7 rfl kr ⟨_, _, rfl, rfl, (nf h2)⟩ (q_fieldAddr ttOk rfl) rfl (rdk_take 8 rfl kr ⟨_, _, rfl, rfl, (nf h2)⟩ (q_load ttOk rfl) rfl (rdk_one 9 kr (rdo_call (nm := 23) rfl ⟨_, _, rfl, rfl, (nf h2)⟩ (cf rfl) (c_FreshIn l e.client e.seq) (rs_of rfl) rfl rfl rfl (rdk_take 10 rfl kr ⟨_, _, rfl, rfl, (nf h2)⟩ (q_not rfl) rfl (rk0 11 rfl (q_pick_f rfl (nf h2) rfl) rfl (rk0 12 rfl (q_move rfl) rfl (rdk_partn (t := 26) rfl (fun h3 => ?_) (fun h3 => ?_)))))))))))
 try have d3 := of_decide_eq_false h3
 refine rdk_skip 13 rfl kr ⟨_, rfl, .inl ⟨_, rfl, (nt h3)⟩⟩ rfl (rdk_skip 14 rfl kr ⟨_, rfl, .inl ⟨_, rfl, (nt h3)⟩⟩ rfl (rdk_skip 15 rfl kr ⟨_, rfl, .inl ⟨_, rfl, (nt h3)⟩⟩ rfl (rdk_skip 16 rfl kr ⟨_, rfl, .inl ⟨_, rfl, (nt h3)⟩⟩ rfl (rdk_skip 17 rfl kr ⟨_, rfl, .inl ⟨_, rfl, (nt h3)⟩⟩ rfl (rk0 18 rfl (q_pick_t rfl (nt h3) rfl) rfl (rdk_endq kr (et (ev_cond_kt rfl rfl (sq (rg (xm rfl rfl (evl_call (nm := 34) (cf rfl) (c_l9Copy l om) (rs_of rfl) rfl rfl rfl (xs rfl rfl (xs rfl rfl (nl (et (ev_ret (evr_then (ret_pureN ttOk rfl rfl ?_)))))))))))))))))))
 rotate_left
 try have d3 := of_decide_eq_true h3
 refine rdk_take 13 rfl kr ⟨_, _, rfl, rfl, (nf h3)⟩ (q_fieldAddr ttOk rfl) rfl (rdk_take 14 rfl kr ⟨_, _, rfl, rfl, (nf h3)⟩ (q_load ttOk rfl) rfl (rdk_take 15 rfl kr ⟨_, _, rfl, rfl, (nf h3)⟩ (q_move rfl) rfl (rdk_one 16 kr (rdo_call (nm := 30) rfl ⟨_, _, rfl, rfl, (nf h3)⟩ (cf rfl) (c_LastSeen2 l ‹_›) (rs_of rfl) rfl rfl rfl (rdk_take 17 rfl kr ⟨_, _, rfl, rfl, (nf h3)⟩ (q_bin ttOk rfl) rfl (rk0 18 rfl (q_pick_f rfl (nf h3) rfl) rfl (rdk_endq kr (et (ev_cond rfl (fun h4 => ?_) (fun h4 => ?_))))))))))
 try have d4 := of_decide_eq_true h4
 refine sq (rg (xm rfl rfl (evl_call (nm := 34) (cf rfl) (c_l9Copy l om) (rs_of rfl) rfl rfl rfl (xs rfl rfl (xs rfl rfl (nl (et (ev_ret (evr_then (ret_pureN ttOk rfl rfl ?_))))))))))
 rotate_left
 try have d4 := of_decide_eq_false h4
 refine ev_skip (et (sq ?_))
 have hfr := fresh_yes (l := l) (e := e) ‹_› ‹_› ‹_›
 refine rg (xf ttOk rfl rfl (xl ttOk rfl rfl (xf ttOk rfl rfl (xl ttOk rfl rfl (xf ttOk rfl rfl (xl ttOk rfl rfl (xo (q_build ttOk rfl) rfl (evl_e (e_alloc ttOk rfl rfl rfl rfl) (xst ttOk rfl rfl (nl (et (sq (rg (evl_e (e_lit ttOk rfl rfl rfl) (xs rfl rfl (nl (et (sq (rg (xs rfl rfl (nl (et (sq (sq (rg (xs rfl rfl (nl (et (ev_blk (ev_loop (fun i : Nat × List Mark × Bool => (⟨[(9, iV i.1), (0, cV (marks l)), (3, .p false [.pb 3 0]), (6, .p false [.pb 6 0]), (7, .p false [.rt 101]), (8, bV i.2.2)], [(6, 76, [.c (iC e.client), .c (iC e.seq), .c (iC e.index)]), (3, 62, [.c (iC e.index), .c (iC e.time), .c (iC e.client), .c (iC e.seq), .c (iC e.kind), .c (iC e.a), .c (iC e.b), .c (iC e.c), .c (iC e.d)])], [(101, 76, 3, (i.2.1.map markC))], []⟩ : St)) (fun i => i.1 ≤ l.length ∧ mkInv l (eMark e) i.1 i.2.1 i.2.2) (fun i => l.length - i.1) (0, [], false) [(101, 42)] (⟨by simp, mkInv0⟩) ⟨trf, trf, ⟨⟨_, rfl, by rfl⟩, trivial⟩, tre, rfl⟩ ?_))))))))))))))))))))))))))))))
 intro i hp
 obtain ⟨k, o, dn⟩ := i
 have hp : k ≤ l.length ∧ mkInv l (eMark e) k o dn := hp
 obtain ⟨p0, p1⟩ := hp
 show Ev _ _ _ _ (⟨[(9, iV k), (0, cV (marks l)), (3, .p false [.pb 3 0]), (6, .p false [.pb 6 0]), (7, .p false [.rt 101]), (8, bV dn)], [(6, 76, [.c (iC e.client), .c (iC e.seq), .c (iC e.index)]), (3, 62, [.c (iC e.index), .c (iC e.time), .c (iC e.client), .c (iC e.seq), .c (iC e.kind), .c (iC e.a), .c (iC e.b), .c (iC e.c), .c (iC e.d)])], [(101, 76, 3, (o.map markC))], []⟩ : St)
 have hol := mkInv_len p1
 refine sq (sq (rg (xm rfl rfl (xm rfl rfl (xo (q_len_map ttOk rfl rfl) rfl (xb ttOk rfl rfl (nl (et (ev_cond rfl (fun h5 => ?_) (fun h5 => ?_))))))))))
 try have d5 := of_decide_eq_true h5
 refine ev_skip (et (sq (ev_blk (sq (sq (ev_drawq [] mo (rk0 0 rfl (q_move rfl) rfl (rk0 1 rfl (q_not rfl) rfl (rk0 2 rfl (q_move rfl) rfl (rdk_partn (t := 51) rfl (fun h6 => ?_) (fun h6 => ?_)))))))))))
 try have d6 := of_decide_eq_false h6
 refine rdk_take 3 rfl kr ⟨_, _, rfl, rfl, (nt h6)⟩ (q_move rfl) rfl (rdk_take 4 rfl kr ⟨_, _, rfl, rfl, (nt h6)⟩ (q_move rfl) rfl (rdk_take 5 rfl kr ⟨_, _, rfl, rfl, (nt h6)⟩ (q_ix_map ttOk rfl rfl rfl rfl om) rfl (rdk_take 6 rfl kr ⟨_, _, rfl, rfl, (nt h6)⟩ (q_fieldAddr ttOk rfl) rfl (rdk_take 7 rfl kr ⟨_, _, rfl, rfl, (nt h6)⟩ (q_load ttOk rfl) rfl (rdk_take 8 rfl kr ⟨_, _, rfl, rfl, (nt h6)⟩ (q_fieldAddr ttOk rfl) rfl (rdk_take 9 rfl kr ⟨_, _, rfl, rfl, (nt h6)⟩ (q_load ttOk rfl) rfl (rdk_take 10 rfl kr ⟨_, _, rfl, rfl, (nt h6)⟩ (q_bin ttOk rfl) rfl (rk0 11 rfl (q_pick_t rfl (nt h6) rfl) rfl (rdk_endq kr (et (ev_cond rfl (fun h7 => ?_) (fun h7 => ?_))))))))))))
 try have d7 := of_decide_eq_true h7
 refine sq (rg (xm rfl rfl (xl ttOk rfl rfl (evl_e (e_lit ttOk rfl rfl rfl) (evl_e (e_app ttOk rfl rfl rfl rfl rfl rfl rfl (by simp; omega) rfl rfl) (xs rfl rfl (nl (et (rg (xs rfl rfl (nl (et (sq (ev_drawq [] mo (rk0 0 rfl (q_move rfl) rfl (rk0 1 rfl (q_move rfl) rfl (rk0 2 rfl (q_ix_map ttOk rfl rfl rfl rfl om) rfl (rk0 3 rfl (q_fieldAddr ttOk rfl) rfl (rk0 4 rfl (q_load ttOk rfl) rfl (rk0 5 rfl (q_fieldAddr ttOk rfl) rfl (rk0 6 rfl (q_load ttOk rfl) rfl (rk0 7 rfl (q_bin ttOk rfl) rfl (rdk_endq kr (et (ev_cond rfl (fun h8 => ?_) (fun h8 => ?_))))))))))))))))))))))))))
 try have d8 := of_decide_eq_true h8
 refine rg (xm rfl rfl (xm rfl rfl (xm rfl rfl (xo (q_ix_map ttOk rfl rfl rfl rfl om) rfl (xl ttOk rfl rfl (evl_e (e_lit ttOk rfl rfl rfl) (evl_e (e_app ttOk rfl rfl rfl rfl rfl rfl rfl (by simp; omega) rfl rfl) (xs rfl rfl (nl (eb (et (rg (xm rfl rfl (xa rfl rfl rfl om rfl (xs rfl rfl (nl (eve_round (k + 1, o ++ [eMark e] ++ [l[k]], true) [(101, 79)] ?hp ⟨trf, trf, ⟨⟨_, rfl, by simp [eMark]⟩, trivial⟩, tre, rfl⟩)))))))))))))))))
 have hd : dn = false := by assumption
 subst hd
 case hp => exact ⟨⟨by omega, mkInv1 om p1 (show l[k].client ≥ e.client by omega) (show l[k].client ≠ e.client by omega)⟩, by omega⟩
 try have d8 := of_decide_eq_false h8
 refine ev_skip (eb (et (rg (xm rfl rfl (xa rfl rfl rfl om rfl (xs rfl rfl (nl (eve_round (k + 1, o ++ [eMark e], true) [(101, 64)] ?hp ⟨trf, trf, ⟨⟨_, rfl, by simp [eMark]⟩, trivial⟩, tre, rfl⟩))))))))
 have hd : dn = false := by assumption
 subst hd
 case hp => exact ⟨⟨by omega, mkInv2 om p1 (show l[k].client = e.client by omega)⟩, by omega⟩
 try have d7 := of_decide_eq_false h7
 refine ev_skip (et (sq (ev_drawq [] mo (rk0 0 rfl (q_move rfl) rfl (rk0 1 rfl (q_move rfl) rfl (rk0 2 rfl (q_ix_map ttOk rfl rfl rfl rfl om) rfl (rk0 3 rfl (q_fieldAddr ttOk rfl) rfl (rk0 4 rfl (q_load ttOk rfl) rfl (rk0 5 rfl (q_fieldAddr ttOk rfl) rfl (rk0 6 rfl (q_load ttOk rfl) rfl (rk0 7 rfl (q_bin ttOk rfl) rfl (rdk_endq kr (et (ev_cond rfl (fun h9 => ?_) (fun h9 => ?_)))))))))))))))
 try have d9 := of_decide_eq_true h9
 refine rg (xm rfl rfl (xm rfl rfl (xm rfl rfl (xo (q_ix_map ttOk rfl rfl rfl rfl om) rfl (xl ttOk rfl rfl (evl_e (e_lit ttOk rfl rfl rfl) (evl_e (e_app ttOk rfl rfl rfl rfl rfl rfl rfl (by simp; omega) rfl rfl) (xs rfl rfl (nl (eb (et (rg (xm rfl rfl (xa rfl rfl rfl om rfl (xs rfl rfl (nl (eve_round (k + 1, o ++ [l[k]], dn) [(101, 79)] ?hp ⟨trf, trf, ⟨⟨_, rfl, by simp [eMark]⟩, trivial⟩, tre, rfl⟩)))))))))))))))))
 case hp => first
 | (have hd : dn = true := by assumption
    subst hd
    exact ⟨⟨by omega, mkInv3 hso om p1⟩, by omega⟩)
 | (have hd : dn = false := by assumption
    subst hd
    exact ⟨⟨by omega, mkInv4 om p1 (show l[k].client < e.client by omega)⟩, by omega⟩)
 try have d9 := of_decide_eq_false h9
 refine ev_skip (eb (et (rg (xm rfl rfl (xa rfl rfl rfl om rfl (xs rfl rfl (nl ?_)))))))
 exfalso
 first
 | (have hd : dn = true := by assumption
    subst hd
    have h9 := mk_over hso om p1
    have h8 : e.client < l[k].client := h9
    omega)
 | omega
 try have d6 := of_decide_eq_true h6
 refine rdk_skip 3 rfl kr ⟨_, rfl, .inl ⟨_, rfl, (nf h6)⟩⟩ rfl (rdk_skip 4 rfl kr ⟨_, rfl, .inl ⟨_, rfl, (nf h6)⟩⟩ rfl (rdk_skip 5 rfl kr ⟨_, rfl, .inl ⟨_, rfl, (nf h6)⟩⟩ rfl (rdk_skip 6 rfl kr ⟨_, rfl, .inl ⟨_, rfl, (nf h6)⟩⟩ rfl (rdk_skip 7 rfl kr ⟨_, rfl, .inl ⟨_, rfl, (nf h6)⟩⟩ rfl (rdk_skip 8 rfl kr ⟨_, rfl, .inl ⟨_, rfl, (nf h6)⟩⟩ rfl (rdk_skip 9 rfl kr ⟨_, rfl, .inl ⟨_, rfl, (nf h6)⟩⟩ rfl (rdk_skip 10 rfl kr ⟨_, rfl, .inl ⟨_, rfl, (nf h6)⟩⟩ rfl (rk0 11 rfl (q_pick_f rfl (nf h6) rfl) rfl (rdk_endq kr (et (ev_cond_kf rfl rfl (ev_skip (et (sq (ev_drawq [] mo (rk0 0 rfl (q_move rfl) rfl (rk0 1 rfl (q_move rfl) rfl (rk0 2 rfl (q_ix_map ttOk rfl rfl rfl rfl om) rfl (rk0 3 rfl (q_fieldAddr ttOk rfl) rfl (rk0 4 rfl (q_load ttOk rfl) rfl (rk0 5 rfl (q_fieldAddr ttOk rfl) rfl (rk0 6 rfl (q_load ttOk rfl) rfl (rk0 7 rfl (q_bin ttOk rfl) rfl (rdk_endq kr (et (ev_cond rfl (fun h10 => ?_) (fun h10 => ?_)))))))))))))))))))))))))))
 try have d10 := of_decide_eq_true h10
 refine rg (xm rfl rfl (xm rfl rfl (xm rfl rfl (xo (q_ix_map ttOk rfl rfl rfl rfl om) rfl (xl ttOk rfl rfl (evl_e (e_lit ttOk rfl rfl rfl) (evl_e (e_app ttOk rfl rfl rfl rfl rfl rfl rfl (by simp; omega) rfl rfl) (xs rfl rfl (nl (eb (et (rg (xm rfl rfl (xa rfl rfl rfl om rfl (xs rfl rfl (nl (eve_round (k + 1, o ++ [l[k]], dn) [(101, 79)] ?hp ⟨trf, trf, ⟨⟨_, rfl, by simp [eMark]⟩, trivial⟩, tre, rfl⟩)))))))))))))))))
 case hp => first
 | (have hd : dn = true := by assumption
    subst hd
    exact ⟨⟨by omega, mkInv3 hso om p1⟩, by omega⟩)
 | (have hd : dn = false := by assumption
    subst hd
    exact ⟨⟨by omega, mkInv4 om p1 (show l[k].client < e.client by omega)⟩, by omega⟩)
 try have d10 := of_decide_eq_false h10
 refine ev_skip (eb (et (rg (xm rfl rfl (xa rfl rfl rfl om rfl (xs rfl rfl (nl ?_)))))))
 exfalso
 first
 | (have hd : dn = true := by assumption
    subst hd
    have h9 := mk_over hso om p1
    have h8 : e.client < l[k].client := h9
    omega)
 | omega
 try have d5 := of_decide_eq_false h5
 refine ev_exit (evx_then (evx_then (evx_hit (et (sq (sq (rg (xm rfl rfl (xo (q_not rfl) rfl (nl (et (ev_cond_n rfl (fun h11 => ?_) (fun h11 => ?_)))))))))))))
 try have d11 := of_decide_eq_false h11
 refine rg (xm rfl rfl (xl ttOk rfl rfl (evl_e (e_lit ttOk rfl rfl rfl) (evl_e (e_app ttOk rfl rfl rfl rfl rfl rfl rfl (by simp; omega) rfl rfl) (xs rfl rfl (nl (et (sq (rg (xm rfl rfl (xs rfl rfl (xs rfl rfl (nl (et (ev_ret (ret_pureN ttOk rfl rfl ?_))))))))))))))))
 rotate_left
 try have d11 := of_decide_eq_true h11
 refine ev_skip (et (sq (rg (xm rfl rfl (xs rfl rfl (xs rfl rfl (nl (et (ev_ret (ret_pureN ttOk rfl rfl ?_))))))))))
 rotate_left
 all_goals
  first
  | (rw [mk_no0 ‹_›]; simp [RpLe, L2, RcLe]; done)
  | (rw [mk_yes ‹_› hfr, ← mkEnd2 om (show mkInv l (eMark e) k o false by rw [← (show dn = false by assumption)]; exact p1)]; simp [RpLe, L2, RcLe, eMark]; done)
  | (rw [mk_yes ‹_› hfr, ← mkEnd1 om (show mkInv l (eMark e) k o true by rw [← (show dn = true by assumption)]; exact p1)]; simp [RpLe, L2, RcLe]; done)
  | (rw [mk_no ‹_› (fresh_no1 ‹_›)]; simp [RpLe, L2, RcLe]; done)
  | (rw [mk_no ‹_› (fresh_no2 ‹_› ‹_› ‹_›)]; simp [RpLe, L2, RcLe]; done)
  | (rw [mk_no ‹_› (fresh_no3 ‹_›)]; simp [RpLe, L2, RcLe]; done)
end Go.Proofs.YtahkjonokeifmaaGreat
