/- Walks of functions of the program, printed by a program of the prover. -/
import Derived.Test.YtahkjonokeifmaaKeF51
import Derived.Test.YtahkjonokeifmaaKeVDA
namespace Go.Proofs.Ytahkjonokeifmaa
open Go.ChangeShapes Go.WideShapes Go.ChangeAt Go.RowKit
set_option linter.unusedVariables false
set_option linter.unusedSimpArgs false
set_option maxHeartbeats 1000000
set_option maxRecDepth 100000
attribute [local irreducible] EvL Ev EvE Quiet Eff Pure RDk RDb RDo
theorem rowOk_iff {l : List Int} : rowOk l = true ↔ l.length ≤ 48 ∧ ∀ x ∈ l, 0 ≤ x ∧ x ≤ 1000000000 := by
 simp only [rowOk, Bool.and_eq_true, decide_eq_true_eq, List.all_eq_true, numOk_iff]
theorem canSum_iff {l : List Int} : canSum l = true ↔ l.length < 48 ∧ ∀ x ∈ l, 0 ≤ x ∧ x ≤ 1000000000 := by
 simp only [canSum, Bool.and_eq_true, decide_eq_true_eq, rowOk_iff]
 exact ⟨fun h => ⟨h.2, h.1.2⟩, fun h => ⟨⟨by omega, h.2⟩, h.1⟩⟩
theorem ws_ok {l : List Int} (h : canSum l = true) : rowOk (withSumF l) = true := by
 rw [withSum_yes h]
 obtain ⟨h1, h2⟩ := canSum_iff.1 h
 have h3 := sum_rng l
 refine rowOk_iff.2 ⟨by simp; omega, fun x hx => ?_⟩
 rcases List.mem_append.1 hx with hx | hx
 ·exact h2 x hx
 ·rw [List.mem_singleton.1 hx]; omega
theorem uns_ws {l : List Int} (h : canSum l = true) : unsF (withSumF l) = some l := by
 have h0 := ws_ok h
 rw [withSum_yes h] at h0 ⊢
 have e : (l ++ [sumF l]).take ((l ++ [sumF l]).length - 1) = l := by simp
 rw [uns_yes h0 (by simp) (by rw [e]; simp), e]
theorem uns_len {c r : List Int} (h : unsF c = some r) : c.length = r.length + 1 ∧ r = c.take r.length ∧ rowOk c = true := by
 unfold unsF at h
 split at h
 ·rename_i hh
  simp only [Bool.and_eq_true, decide_eq_true_eq] at hh
  cases h
  refine ⟨by rw [List.length_take]; omega, by rw [List.length_take]; congr 1; omega, hh.1⟩
 ·cases h
theorem opOk_rng {k a b c d : Int} (h : opOk k a b c d = true) : (0 ≤ k ∧ k ≤ 1000000000) ∧ (0 ≤ a ∧ a ≤ 1000000000) ∧ (0 ≤ b ∧ b ≤ 1000000000) ∧ (0 ≤ c ∧ c ≤ 1000000000) ∧ (0 ≤ d ∧ d ≤ 1000000000) := by
 unfold opOk at h
 simp only [inB, timeOk, Bool.and_eq_true, Bool.or_eq_true, decide_eq_true_eq] at h
 repeat' split at h
 all_goals first
  | omega
  | (simp only [Bool.and_eq_true, decide_eq_true_eq] at h; omega)
  | simp at h
theorem ent_rng {e : Entry} (h : entryOk e = true) : ∀ x ∈ e.nums, 0 ≤ x ∧ x ≤ 1000000000 := by
 simp only [entryOk, indexOk, timeOk, askerOk, seqOk, inB, Bool.and_eq_true, decide_eq_true_eq] at h
 obtain ⟨h1, h2, h3, h4, h5⟩ := h
 have h6 := opOk_rng h5
 intro x hx
 simp only [Entry.nums, List.mem_cons, List.not_mem_nil, or_false] at hx
 omega
theorem slot_len {e : Entry} (h : entryOk e = true) : (slotRowF e).length = 11 := by
 unfold slotRowF
 rw [h]
 simp [Entry.nums]
theorem slot_sum {e : Entry} (h : entryOk e = true) : canSum (slotRowF e) = true := by
 refine canSum_iff.2 ⟨by rw [slot_len h]; omega, fun x hx => ?_⟩
 unfold slotRowF at hx
 rw [h, if_pos rfl] at hx
 have h1 := entry_ix h
 rcases List.mem_append.1 hx with hx | hx
 ·exact ent_rng h x hx
 ·simp only [List.mem_cons, List.not_mem_nil, or_false] at hx; omega
theorem slot_eq {e : Entry} (h : entryOk e = true) : slotRowF e = [e.index, e.time, e.client, e.seq, e.kind, e.a, e.b, e.c, e.d, e.index, e.index] := by
 unfold slotRowF
 rw [h]
 rfl
theorem slot_back {e : Entry} (h : entryOk e = true) : rowSlotF (slotRowF e) = some e := by
 rw [slot_eq h]
 exact if_pos ⟨rfl, h, rfl, rfl⟩
def entIn (c : List Int) : Option Entry := (unsF c).bind rowSlotF
def headOn (c : List Int) : Option Head := (unsF c).bind rowHeadF
theorem ent_good {e : Entry} (h : entryOk e = true) : entIn (withSumF (slotRowF e)) = some e := by
 unfold entIn
 rw [uns_ws (slot_sum h)]
 exact slot_back h
theorem ent_short {c : List Int} (h : c.length ≤ 11) : entIn c = none := by
 unfold entIn
 cases hu : unsF c with
 | none => rfl
 | some r =>
  have := (uns_len hu).1
  exact rs_no1 om
def badS (i : Int) (c : List Int) : Prop := ∀ e, entIn c = some e → e.index ≠ i
def oldS (i : Int) (c : List Int) : Prop := c.length ≤ 1 ∨ ∃ e, entryOk e = true ∧ e.index ≠ i ∧ c = withSumF (slotRowF e)
theorem find_noMark {l : List Mark} (h : SOk l) (c : Int) : (l.find? fun x => decide (x.client = c)) = none ∧ findM l c = noMark ∨ ∃ m ∈ l, m.client = c ∧ markOk m = true ∧ (l.find? fun x => decide (x.client = c)) = some m ∧ findM l c = m := by
 cases hf : l.find? fun x => decide (x.client = c) with
 | none => exact .inl ⟨rfl, by unfold findM; rw [hf]; rfl⟩
 | some m =>
  have h1 := List.find?_some hf
  have h2 := List.mem_of_find?_eq_some hf
  exact .inr ⟨m, h2, by simpa using h1, h.ok m h2, rfl, by unfold findM; rw [hf]; rfl⟩
theorem seenRow_at (l : List Mark) : ∀ k i, i < k → (seenRow l k).getD (2 * i) 0 = (findM l (2 + i)).seq ∧ (seenRow l k).getD (2 * i + 1) 0 = (findM l (2 + i)).index
 | 0, i, h => by omega
 | k + 1, i, h => by
  have hl := seenRow_len l k
  simp only [seenRow]
  rcases Nat.lt_or_ge i k with h1 | h1
  ·have ih := seenRow_at l k i h1
   simp only [List.getD_eq_getElem?_getD] at ih ⊢
   rw [List.getElem?_append_left om, List.getElem?_append_left om]
   exact ih
  ·obtain rfl : i = k := by omega
   simp only [List.getD_eq_getElem?_getD]
   rw [List.getElem?_append_right om, List.getElem?_append_right om, hl]
   simp
theorem seenUp_eq {h : Head} (hs : SOk h.seen) (l : List Int) (hl : ∀ i, i < 4 → l.getD (3 + 2 * i) 0 = (findM h.seen (2 + i)).seq ∧ l.getD (4 + 2 * i) 0 = (findM h.seen (2 + i)).index) : ∀ k, k ≤ 4 → seenUp l k = outF h.seen k
 | 0, _ => (outF_zero hs).symm
 | k + 1, hk => by
  rw [seenUp, outF_next hs, seenUp_eq hs l hl k om]
  congr 1
  obtain ⟨h1, h2⟩ := hl k om
  unfold slotM
  rw [h1, h2]
  rcases find_noMark hs (2 + k) with ⟨e1, e2⟩ | ⟨m, _, hc, hm, e1, e2⟩
  ·rw [e1, e2]; rfl
  ·rw [e1, e2]
   simp only [markOk, seqOk, inB, Bool.and_eq_true, decide_eq_true_eq] at hm
   rw [if_pos (.inl om), ← hc]
   rfl
theorem headRow_eq {h : Head} (hh : headOk h = true) : headRowF h = [h.num, h.base, h.time] ++ seenRow h.seen 4 ++ [h.num, h.num] := by
 unfold headRowF
 rw [hh]
 rfl
theorem headRow_13 {h : Head} (hh : headOk h = true) : (headRowF h).length = 13 := by
 rw [headRow_eq hh]
 simp [seenRow_len]
theorem headRow_getD {h : Head} (hh : headOk h = true) : (headRowF h).getD 0 0 = h.num ∧ (headRowF h).getD 1 0 = h.base ∧ (headRowF h).getD 2 0 = h.time ∧ (headRowF h).getD 11 0 = h.num ∧ (headRowF h).getD 12 0 = h.num ∧ ∀ i, i < 4 → (headRowF h).getD (3 + 2 * i) 0 = (findM h.seen (2 + i)).seq ∧ (headRowF h).getD (4 + 2 * i) 0 = (findM h.seen (2 + i)).index := by
 have hl := seenRow_len h.seen 4
 rw [headRow_eq hh]
 refine ⟨rfl, rfl, rfl, ?_, ?_, fun i hi => ?_⟩
 ·simp only [List.getD_eq_getElem?_getD]
  rw [List.getElem?_append_right (by simp; omega)]
  simp [hl]
 ·simp only [List.getD_eq_getElem?_getD]
  rw [List.getElem?_append_right (by simp; omega)]
  simp [hl]
 ·have ih := seenRow_at h.seen 4 i hi
  simp only [List.getD_eq_getElem?_getD] at ih ⊢
  refine ⟨?_, ?_⟩
  ·rw [List.getElem?_append_left (by simp; omega), List.getElem?_append_right (by simp)]
   simp only [List.length_cons, List.length_nil]
   rw [show 3 + 2 * i - (0 + 1 + 1 + 1) = 2 * i by omega]
   exact ih.1
  ·rw [List.getElem?_append_left (by simp; omega), List.getElem?_append_right (by simp; omega)]
   simp only [List.length_cons, List.length_nil]
   rw [show 4 + 2 * i - (0 + 1 + 1 + 1) = 2 * i + 1 by omega]
   exact ih.2
theorem head_back {h : Head} (hh : headOk h = true) : rowHeadF (headRowF h) = some h := by
 have hs := sok_of (head_bd hh).2.2.2.2
 obtain ⟨h0, h1, h2, h3, h4, h5⟩ := headRow_getD hh
 have e : headOf (headRowF h) = h := by
  unfold headOf
  rw [h0, h1, h2, seenUp_eq hs _ h5 4 (Nat.le_refl _), outF_all hs]
 unfold rowHeadF
 rw [e, h3, h4, h0]
 exact if_pos ⟨headRow_13 hh, hh, rfl, rfl⟩
theorem seenRow_rng {l : List Mark} (h : SOk l) : ∀ k, ∀ x ∈ seenRow l k, 0 ≤ x ∧ x ≤ 1000000000
 | 0, x, hx => by simp [seenRow] at hx
 | k + 1, x, hx => by
  simp only [seenRow] at hx
  rcases List.mem_append.1 hx with hx | hx
  ·exact seenRow_rng h k x hx
  ·rcases find_noMark h (2 + k) with ⟨_, e2⟩ | ⟨m, _, _, hm, _, e2⟩
   ·rw [e2] at hx
    simp [noMark] at hx
    omega
   ·rw [e2] at hx
    simp only [markOk, seqOk, indexOk, inB, Bool.and_eq_true, decide_eq_true_eq] at hm
    simp only [List.mem_cons, List.not_mem_nil, or_false] at hx
    omega
theorem head_nums {h : Head} (hh : headOk h = true) : (0 ≤ h.num ∧ h.num ≤ h.base) ∧ (0 ≤ h.base ∧ h.base ≤ 2000) ∧ (0 ≤ h.time ∧ h.time ≤ 1000000) := by
 simp only [headOk, timeOk, inB, Bool.and_eq_true, decide_eq_true_eq] at hh
 omega
theorem head_sum {h : Head} (hh : headOk h = true) : canSum (headRowF h) = true := by
 refine canSum_iff.2 ⟨by rw [headRow_13 hh]; omega, fun x hx => ?_⟩
 have h1 := head_nums hh
 have hs := sok_of (head_bd hh).2.2.2.2
 rw [headRow_eq hh] at hx
 rcases List.mem_append.1 hx with hx | hx
 ·rcases List.mem_append.1 hx with hx | hx
  ·simp only [List.mem_cons, List.not_mem_nil, or_false] at hx; omega
  ·exact seenRow_rng hs 4 x hx
 ·simp only [List.mem_cons, List.not_mem_nil, or_false] at hx; omega
theorem head_good {h : Head} (hh : headOk h = true) : headOn (withSumF (headRowF h)) = some h := by
 unfold headOn
 rw [uns_ws (head_sum hh)]
 exact head_back hh
def lowH (k : Int) (c : List Int) : Prop := c.length ≤ 1 ∨ ∃ h, headOk h = true ∧ h.num < k ∧ c = withSumF (headRowF h)
def badH (k : Int) (c : List Int) : Prop := ∀ h, headOn c = some h → h.num < k
def cell (d : Disk) (s : Int) : List Int := d.kept.getD s.toNat []
theorem read_cell {d : Disk} {s : Int} (hd : diskOk d = true) (hw : d.wait = []) (h : 0 ≤ s ∧ s < d.kept.length) : readF d s = some (cell d s) := by
 unfold readF
 rw [hd, hasAt_iff.2 h, hw]
 rfl
theorem find_right {α : Type} {f : List Int → Option α} (a b : Option (List Int)) : (rightOf a b).findSome? f = (a.bind f).or (b.bind f) := by
 cases a with
 | none => cases b <;> simp [rightOf]
 | some x =>
  cases b with
  | none => simp [rightOf]
  | some y =>
   simp only [rightOf, Option.toList_some]
   by_cases e : x = y
   ·subst e
    have : eqL x x = true := by simp [eqL]
    rw [if_pos this]
    cases hf : f x <;> simp [hf]
   ·have : eqL x y = false := by simp [eqL, e]
    rw [this]
    cases hf : f x <;> simp [hf]
structure Rest (t : Two) : Prop where
 ok : keptOk t = true
 wa : t.a.wait = []
 wb : t.b.wait = []
theorem Rest.parts {t : Two} (h : Rest t) : twoOk t = true ∧ diskOk t.a = true ∧ diskOk t.b = true ∧ t.a.kept.length = 22 ∧ t.b.kept.length = 22 := by
 obtain ⟨h1, h2⟩ := keptOk_iff.1 h.ok
 obtain ⟨h3, h4, h5⟩ := twoOk_iff.1 h1
 exact ⟨h1, h3, h4, h2, by omega⟩
theorem Rest.right {t : Two} (h : Rest t) {s : Int} (hs : 0 ≤ s ∧ s < 22) : rightF t s = rightOf (unsF (cell t.a s)) (unsF (cell t.b s)) := by
 obtain ⟨h1, h2, h3, h4, h5⟩ := h.parts
 rw [right_yes h1 (hasAt_iff.2 om), read_cell h2 h.wa om, read_cell h3 h.wb om]
 rfl
def okE (b : Book) (s : List Mark) (e : Entry) : Option Entry := if e.index = lastB b + 1 ∧ fitsF b e = true ∧ freshF s e = true then some e else none
theorem take_entIn {b : Book} {s : List Mark} (c : List Int) : (unsF c).bind (takeE b s) = (entIn c).bind (okE b s) := by
 unfold entIn
 cases unsF c with
 | none => rfl
 | some r =>
  show takeE b s r = (rowSlotF r).bind (okE b s)
  unfold takeE
  cases rowSlotF r <;> rfl
theorem slot_rng (x : Int) : 2 ≤ slotF x ∧ slotF x < 22 := by unfold slotF; omega
theorem Rest.next {t : Two} (h : Rest t) {b : Book} {s : List Mark} : nextE t b s = ((entIn (cell t.a (slotF (lastB b + 1)))).bind (okE b s)).or ((entIn (cell t.b (slotF (lastB b + 1)))).bind (okE b s)) := by
 have hs := slot_rng (lastB b + 1)
 unfold nextE
 rw [h.right om, find_right, take_entIn, take_entIn]
theorem okE_yes {b : Book} {s : List Mark} {e : Entry} (h1 : fitsF b e = true) (h2 : freshF s e = true) : okE b s e = some e := if_pos ⟨(fits_iff.1 h1).2.1, h1, h2⟩
theorem bind_bad {b : Book} {s : List Mark} {c : List Int} (h : badS (lastB b + 1) c) : (entIn c).bind (okE b s) = none := by
 cases he : entIn c with
 | none => rfl
 | some e => exact if_neg fun hh => h e he hh.1
theorem Rest.next_none {t : Two} (h : Rest t) {b : Book} {s : List Mark} (ha : badS (lastB b + 1) (cell t.a (slotF (lastB b + 1)))) (hb : badS (lastB b + 1) (cell t.b (slotF (lastB b + 1)))) : nextE t b s = none := by
 rw [h.next, bind_bad ha, bind_bad hb]; rfl
def eorb (e : Entry) (c : List Int) : Prop := entIn c = some e ∨ badS e.index c
theorem Rest.next_case {t : Two} (h : Rest t) {b : Book} {s : List Mark} {e : Entry} (h1 : fitsF b e = true) (h2 : freshF s e = true) (ha : eorb e (cell t.a (slotF e.index))) (hb : eorb e (cell t.b (slotF e.index))) :
  nextE t b s = some e ∨ (nextE t b s = none ∧ entIn (cell t.a (slotF e.index)) ≠ some e ∧ entIn (cell t.b (slotF e.index)) ≠ some e) := by
 have hi := (fits_iff.1 h1).2.1
 have ho := okE_yes h1 h2
 rw [h.next, ← hi]
 rcases ha with ha | ha
 ·left; rw [ha, Option.bind_some, ho]; rfl
 ·rw [bind_bad (by rw [← hi]; exact ha)]
  rcases hb with hb | hb
  ·left; rw [hb, Option.bind_some, ho]; rfl
  ·right
   rw [bind_bad (by rw [← hi]; exact hb)]
   exact ⟨rfl, fun e1 => ha e e1 rfl, fun e1 => hb e e1 rfl⟩
theorem book_time0 {b : Book} (hb : bookOk b = true) (hk : 0 < b.entries.length) : b.entries[0].time ≥ b.time := by
 obtain ⟨x, y, es⟩ := b
 cases es with
 | nil => simp at hk
 | cons a l =>
  simp only [bookOk, Bool.and_eq_true, decide_eq_true_eq] at hb
  exact hb.2.2.2.2.2.2
theorem book_fits {b : Book} (hb : bookOk b = true) {k : Nat} (hk : k < b.entries.length) : fitsF ⟨b.base, b.time, b.entries.take k⟩ b.entries[k] = true := by
 have hbd := book_bd hb
 have h9 := hb
 simp only [bookOk, Bool.and_eq_true, decide_eq_true_eq] at h9
 have hst := (entriesOk_iff.1 h9.2.2.2.2.1).2 k hk
 rw [entStep_at hk] at hst
 simp only [Bool.and_eq_true] at hst
 have hix := ent_ix hb k hk
 have hlen : (b.entries.take k).length = k := by rw [List.length_take]; omega
 refine fits_iff.2 ⟨hst.1, by show b.entries[k].index = b.base + ((b.entries.take k).length : Int) + 1; rw [hlen]; omega, ?_, by rw [hlen]; omega⟩
 cases k with
 | zero =>
  have e0 : timeB ⟨b.base, b.time, b.entries.take 0⟩ = b.time := timeB_nil hlen
  rw [e0]
  exact book_time0 hb hk
 | succ j =>
  rw [timeB_last (m := j) hlen]
  have h7 := hst.2
  rw [entOver_at hk om] at h7
  simp only [Bool.and_eq_true, decide_eq_true_eq] at h7
  simpa using h7.2
theorem over_fresh {l c : List Mark} {es : List Entry} (h : overL l es = some c) {k : Nat} (hk : k < es.length) : ∃ c', overL l (es.take k) = some c' ∧ freshF c' es[k] = true := by
 obtain ⟨c', h1⟩ := over_prefix h k
 refine ⟨c', h1, ?_⟩
 cases hf : freshF c' es[k] with
 | true => rfl
 | false => rw [over_no hk h1 hf] at h; cases h
theorem appF_take {x y : Int} {es : List Entry} {k : Nat} (hk : k < es.length) : appF ⟨x, y, es.take k⟩ es[k] = ⟨x, y, es.take (k + 1)⟩ := by
 unfold appF
 rw [List.take_succ_eq_append_getElem hk]
theorem book_run {t : Two} {h : Head} {es : List Entry} {c : List Mark} {m0 : Nat} (hr : Rest t) (hh : headOk h = true) (hb : bookOk ⟨h.base, h.time, es⟩ = true) (ho : overL h.seen es = some c) (hm0 : m0 ≤ es.length)
  (hc : ∀ j (hj : j < es.length), eorb es[j] (cell t.a (slotF es[j].index)) ∧ eorb es[j] (cell t.b (slotF es[j].index)))
  (hg : ∀ j (hj : j < es.length), j < m0 → entIn (cell t.a (slotF es[j].index)) = some es[j] ∨ entIn (cell t.b (slotF es[j].index)) = some es[j])
  (he : es.length < 20 → badS (h.base + es.length + 1) (cell t.a (slotF (h.base + es.length + 1))) ∧ badS (h.base + es.length + 1) (cell t.b (slotF (h.base + es.length + 1)))) :
  ∃ m, m0 ≤ m ∧ m ≤ es.length ∧ bookInF t h = ⟨h.base, h.time, es.take m⟩ := by
 have hbd := book_bd hb
 have key : ∀ k, k ≤ 20 → ∃ m c', m ≤ es.length ∧ bookUp t h k = (⟨h.base, h.time, es.take m⟩, c') ∧ overL h.seen (es.take m) = some c' ∧ (m = k ∨ (m0 ≤ m ∧ nextE t ⟨h.base, h.time, es.take m⟩ c' = none)) := by
  intro k
  induction k with
  | zero => exact fun _ => ⟨0, h.seen, by omega, by simp [bookUp], by simp [overL], .inl rfl⟩
  | succ k ih =>
   intro hk
   obtain ⟨m, c', h1, h2, h3, h4⟩ := ih om
   rcases h4 with rfl | ⟨h5, h6⟩
   ·rcases Nat.lt_or_ge m es.length with h7 | h7
    ·have f1 : fitsF ⟨h.base, h.time, es.take m⟩ es[m] = true := book_fits hb h7
     obtain ⟨c2, f2, f3⟩ := over_fresh ho h7
     rw [h3] at f2; cases f2
     obtain ⟨g1, g2⟩ := hc m h7
     rcases hr.next_case f1 f3 g1 g2 with h8 | ⟨h8, h9, h10⟩
     ·refine ⟨m + 1, insF c' (eMark es[m]), by omega, ?_, ?_, .inl rfl⟩
      ·simp only [bookUp, h2, h8]
       rw [appF_take h7]
      ·exact over_yes h7 h3 f3
     ·refine ⟨m, c', h1, by simp only [bookUp, h2, h8], h3, .inr ⟨?_, h8⟩⟩
      rcases Nat.lt_or_ge m m0 with h11 | h11
      ·rcases hg m h7 h11 with h12 | h12
       ·exact absurd h12 h9
       ·exact absurd h12 h10
      ·exact h11
    ·obtain rfl : m = es.length := by omega
     have hlen : lastB ⟨h.base, h.time, es.take es.length⟩ + 1 = h.base + es.length + 1 := by unfold lastB; simp
     obtain ⟨e1, e2⟩ := he om
     have h8 : nextE t ⟨h.base, h.time, es.take es.length⟩ c' = none := hr.next_none (by rw [hlen]; exact e1) (by rw [hlen]; exact e2)
     exact ⟨es.length, c', Nat.le_refl _, by simp only [bookUp, h2, h8], h3, .inr ⟨hm0, h8⟩⟩
   ·exact ⟨m, c', h1, by simp only [bookUp, h2, h6], h3, .inr ⟨h5, h6⟩⟩
 obtain ⟨m, c', h1, h2, h3, h4⟩ := key 20 (Nat.le_refl _)
 have hlen : es.length ≤ 20 := hbd.2.2.1
 refine ⟨m, ?_, h1, ?_⟩
 ·rcases h4 with rfl | ⟨h5, _⟩
  ·omega
  ·exact h5
 ·unfold bookInF
  rw [hr.ok, hh, h2]
  rfl
def hst (k : Int) (acc : Head × Bool) (o : Option Head) : Head × Bool := match o with
 | none => acc
 | some h => if h.num % 2 = k ∧ (acc.2 = false ∨ h.num > acc.1.num) then (h, true) else acc
theorem headStep_eq (k : Int) (acc : Head × Bool) (r : List Int) : headStep k acc r = hst k acc (rowHeadF r) := by
 unfold headStep hst
 cases rowHeadF r with
 | none => simp
 | some h => simp
theorem hst_yes {k : Int} {acc : Head × Bool} {h : Head} (h1 : h.num % 2 = k ∧ (acc.2 = false ∨ h.num > acc.1.num)) : hst k acc (some h) = (h, true) := if_pos h1
theorem hst_no {k : Int} {acc : Head × Bool} {h : Head} (h1 : ¬ (h.num % 2 = k ∧ (acc.2 = false ∨ h.num > acc.1.num))) : hst k acc (some h) = acc := if_neg h1
theorem hst_twice (k : Int) (acc : Head × Bool) (o : Option Head) : hst k (hst k acc o) o = hst k acc o := by
 cases o with
 | none => rfl
 | some h =>
  by_cases h1 : h.num % 2 = k ∧ (acc.2 = false ∨ h.num > acc.1.num)
  ·rw [hst_yes h1]
   exact hst_no (by simp)
  ·rw [hst_no h1, hst_no h1]
theorem fold_right (k : Int) (acc : Head × Bool) (a b : Option (List Int)) : (rightOf a b).foldl (headStep k) acc = hst k (hst k acc (a.bind rowHeadF)) (b.bind rowHeadF) := by
 cases a with
 | none =>
  cases b with
  | none => rfl
  | some y =>
   show headStep k acc y = _
   rw [headStep_eq]; rfl
 | some x =>
  cases b with
  | none =>
   show headStep k acc x = _
   rw [headStep_eq]; rfl
  | some y =>
   simp only [rightOf, Option.toList_some]
   by_cases e : x = y
   ·subst e
    have : eqL x x = true := by simp [eqL]
    rw [if_pos this]
    show headStep k acc x = _
    rw [headStep_eq]
    exact (hst_twice k acc (rowHeadF x)).symm
   ·have : eqL x y = false := by simp [eqL, e]
    rw [this]
    show headStep k (headStep k acc x) y = _
    rw [headStep_eq, headStep_eq]; rfl
theorem Rest.head {t : Two} (h : Rest t) : headIn t = hst 1 (hst 1 (hst 0 (hst 0 (noHead, false) (headOn (cell t.a 0))) (headOn (cell t.b 0))) (headOn (cell t.a 1))) (headOn (cell t.b 1)) := by
 unfold headIn
 rw [h.ok]
 show (rightF t ((1 : Nat) : Int)).foldl (headStep ((1 : Nat) : Int)) ((rightF t ((0 : Nat) : Int)).foldl (headStep ((0 : Nat) : Int)) (noHead, false)) = _
 rw [h.right (s := ((1 : Nat) : Int)) om, h.right (s := ((0 : Nat) : Int)) om, fold_right, fold_right]
 rfl
def isH (h : Head) (c : List Int) : Prop := headOn c = some h ∨ headOn c = none
def othH (h nx : Head) (c : List Int) : Prop := headOn c = some nx ∨ badH h.num c
theorem hst_low {k : Int} {acc : Head × Bool} {h nx : Head} {c : List Int} (ho : othH h nx c) (hn : nx.num % 2 = k) (hnx : h.num < nx.num) (ha : acc.2 = true → acc.1 = nx ∨ acc.1.num < h.num) :
  (hst k acc (headOn c)).2 = true → (hst k acc (headOn c)).1 = nx ∨ (hst k acc (headOn c)).1.num < h.num := by
 intro hx
 rcases ho with ho | ho
 ·rw [ho] at hx ⊢
  simp only [hst] at hx ⊢
  split at hx
  ·rename_i h1; rw [if_pos h1]; exact .inl rfl
  ·rename_i h1; rw [if_neg h1]; exact ha hx
 ·cases hc : headOn c with
  | none => rw [hc] at hx; exact ha hx
  | some h' =>
   have h2 := ho h' hc
   rw [hc] at hx
   simp only [hst] at hx ⊢
   split at hx
   ·rename_i h1; rw [if_pos h1]; exact .inr h2
   ·rename_i h1; rw [if_neg h1]; exact ha hx
theorem head_run {t : Two} {h nx : Head} {p q : Int} (hr : Rest t) (hp : p = h.num % 2) (hq : q = nx.num % 2) (hnx : nx.num = h.num + 1) (h0 : 0 ≤ h.num)
  (ha : isH h (cell t.a p)) (hb : isH h (cell t.b p)) (hs : headOn (cell t.a p) = some h ∨ headOn (cell t.b p) = some h) (ka : othH h nx (cell t.a q)) (kb : othH h nx (cell t.b q)) : headIn t = (h, true) ∨ headIn t = (nx, true) := by
 rw [hr.head]
 rcases (by omega : p = 0 ∧ q = 1 ∨ p = 1 ∧ q = 0) with ⟨rfl, rfl⟩ | ⟨rfl, rfl⟩
 ·have e1 : hst 0 (hst 0 (noHead, false) (headOn (cell t.a 0))) (headOn (cell t.b 0)) = (h, true) := by
   have hh : hst 0 (noHead, false) (some h) = (h, true) := by simp only [hst]; rw [if_pos ⟨hp.symm, by simp⟩]
   rcases ha with ha | ha
   ·rw [ha, hh]
    rcases hb with hb | hb
    ·rw [hb, ← hh, hst_twice]
    ·rw [hb]; rfl
   ·rw [ha]
    rcases hs with hs | hs
    ·rw [ha] at hs; cases hs
    ·rw [hs]; exact hh
  rw [e1]
  have step : ∀ acc : Head × Bool, (acc = (h, true) ∨ acc = (nx, true)) → ∀ c, othH h nx c → (hst 1 acc (headOn c) = (h, true) ∨ hst 1 acc (headOn c) = (nx, true)) := by
   intro acc hacc c hc
   cases ho : headOn c with
   | none => exact hacc
   | some h' =>
    simp only [hst]
    split
    ·rename_i h1
     rcases hc with hc | hc
     ·rw [hc] at ho; cases ho; exact .inr rfl
     ·have := hc h' ho
      rcases hacc with rfl | rfl
      ·simp only [Bool.true_eq_false, false_or] at h1; omega
      ·simp only [Bool.true_eq_false, false_or] at h1; omega
    ·exact hacc
  exact step _ (step _ (.inl rfl) _ ka) _ kb
 ·have l0 := hst_low (k := 0) (acc := (noHead, false)) ka hq.symm om (by simp)
  have l1 := hst_low (k := 0) kb hq.symm om l0
  generalize hst 0 (hst 0 (noHead, false) (headOn (cell t.a 0))) (headOn (cell t.b 0)) = acc at l1
  have hh : hst 1 acc (some h) = (h, true) ∨ (hst 1 acc (some h) = acc ∧ acc = (nx, true)) := by
   simp only [hst]
   split
   ·exact .inl rfl
   ·rename_i h1
    right
    refine ⟨rfl, ?_⟩
    cases hb2 : acc.2 with
    | false => exact absurd ⟨hp.symm, .inl hb2⟩ h1
    | true =>
     rcases l1 hb2 with h3 | h3
     ·rw [← h3, ← hb2]
     ·exact absurd ⟨hp.symm, .inr h3⟩ h1
  have fin : hst 1 acc (some h) = (h, true) ∨ hst 1 acc (some h) = (nx, true) := by
   rcases hh with hh | ⟨hh, e⟩
   ·exact .inl hh
   ·exact .inr (hh.trans e)
  rcases ha with ha | ha
  ·rw [ha]
   rcases hb with hb | hb
   ·rw [hb, hst_twice]; exact fin
   ·rw [hb]; exact fin
  ·rw [ha]
   rcases hs with hs | hs
   ·rw [ha] at hs; cases hs
   ·rw [hs]; exact fin
theorem diskOk_rest {K : List (List Int)} (h1 : 1 ≤ K.length) (h2 : K.length ≤ 40) (h : ∀ r ∈ K, rowOk r = true) : diskOk ⟨K, []⟩ = true := by
 simp only [diskOk, Bool.and_eq_true, decide_eq_true_eq, List.all_eq_true, List.length_nil]
 exact ⟨h1, h2, by omega, h, by simp⟩
theorem rest_sync {t : Two} (h : keptOk t = true) : Rest (bothSyncF t) := by
 have h1 := (keptOk_iff.1 h).1
 have h2 := twoOk_both h1
 refine ⟨by rw [kept_sync]; exact h, ?_, ?_⟩
 ·rw [bsync_yes h1, fall_yes h2.1]
 ·rw [bsync_yes h1, fall_yes h2.2]
theorem rest_fall {t : Two} (h : keptOk t = true) (F : List Int) : Rest (bothFallenF t F) := by
 obtain ⟨h1, h3⟩ := keptOk_iff.1 h
 have h2 := twoOk_both h1
 have h4 := bfall_ok (F := F) h1
 refine ⟨keptOk_iff.2 ⟨h4, ?_⟩, ?_, ?_⟩
 ·rw [bf_yes h1]; simp only [fall_len h2.1]; exact h3
 ·rw [bf_yes h1, fall_yes h2.1]
 ·rw [bf_yes h1, fall_yes h2.2]
theorem torn_self {r : List Int} : tornF r r = r := List.take_append_drop _ _
theorem torn_torn {r old : List Int} : tornF r (tornF r old) = tornF r old := by
 unfold tornF
 have hl : (r.take (r.length / 2)).length = r.length / 2 := by rw [List.length_take]; omega
 rw [List.drop_append_of_le_length om, List.drop_of_length_le om]
 rfl
theorem wait_nat {d : Disk} (hd : diskOk d = true) {k : Nat} (hk : k < d.wait.length) {s : Int} (hs : 0 ≤ s) : d.wait[k].1.toNat = s.toNat ↔ d.wait[k].1 = s := by
 have := wait_at hd hk
 omega
theorem fallUp_miss {d : Disk} (hd : diskOk d = true) {F : List Int} {all : Bool} {s : Int} (hs : 0 ≤ s) (h : ∀ x ∈ d.wait, x.1 ≠ s) : ∀ k, k ≤ d.wait.length → (fallUp d F all k).getD s.toNat [] = cell d s
 | 0, _ => rfl
 | k + 1, hk => by
  have ih := fallUp_miss hd (F := F) (all := all) hs h k om
  have hl := fallUp_len d F all k
  have hw := wait_at hd (k := k) om
  have hne : d.wait[k].1.toNat ≠ s.toNat := fun e => h _ (List.getElem_mem (show k < d.wait.length by omega)) ((wait_nat hd om hs).1 e)
  rw [show fallUp d F all (k + 1) = fallStep (fateAt F k) all (fallUp d F all k) d.wait[k] by simp only [fallUp]; rw [getD_lenW (show k < d.wait.length by omega)]]
  simp only [fallStep]
  split
  ·rw [getD_set om, if_neg hne]; exact ih
  ·split
   ·rw [getD_set om, if_neg hne]; exact ih
   ·exact ih
theorem fallUp_hit {d : Disk} (hd : diskOk d = true) {F : List Int} {s : Int} {r : List Int} (hs : 0 ≤ s) (h : ∀ x ∈ d.wait, x.1 = s → x.2 = r) : ∀ k, k ≤ d.wait.length → (fallUp d F false k).getD s.toNat [] = cell d s ∨ (fallUp d F false k).getD s.toNat [] = r ∨ (fallUp d F false k).getD s.toNat [] = tornF r (cell d s)
 | 0, _ => .inl rfl
 | k + 1, hk => by
  have ih := fallUp_hit hd (F := F) hs h k om
  have hl := fallUp_len d F false k
  have hw := wait_at hd (k := k) om
  rw [show fallUp d F false (k + 1) = fallStep (fateAt F k) false (fallUp d F false k) d.wait[k] by simp only [fallUp]; rw [getD_lenW (show k < d.wait.length by omega)]]
  by_cases e : d.wait[k].1 = s
  ·have hr := h _ (List.getElem_mem (show k < d.wait.length by omega)) e
   simp only [fallStep]
   rw [hr, e]
   split
   ·rw [getD_set om, if_pos rfl]; exact .inr (.inl rfl)
   ·split
    ·rw [getD_set om, if_pos rfl]
     rcases ih with ih | ih | ih
     ·rw [ih]; exact .inr (.inr rfl)
     ·rw [ih, torn_self]; exact .inr (.inl rfl)
     ·rw [ih, torn_torn]; exact .inr (.inr rfl)
    ·exact ih
  ·have hne : d.wait[k].1.toNat ≠ s.toNat := fun e2 => e ((wait_nat hd om hs).1 e2)
   simp only [fallStep]
   split
   ·rw [getD_set om, if_neg hne]; exact ih
   ·split
    ·rw [getD_set om, if_neg hne]; exact ih
    ·exact ih
theorem cell_miss {d : Disk} (hd : diskOk d = true) (F : List Int) (all : Bool) {s : Int} (hs : 0 ≤ s) (h : ∀ x ∈ d.wait, x.1 ≠ s) : cell (fallF d F all) s = cell d s := by
 rw [fall_yes hd]
 exact fallUp_miss hd hs h _ (Nat.le_refl _)
theorem cell_fall {d : Disk} (hd : diskOk d = true) (F : List Int) {s : Int} {r : List Int} (hs : 0 ≤ s) (h : ∀ x ∈ d.wait, x.1 = s → x.2 = r) : cell (fallF d F false) s = cell d s ∨ cell (fallF d F false) s = r ∨ cell (fallF d F false) s = tornF r (cell d s) := by
 rw [fall_yes hd]
 exact fallUp_hit hd hs h _ (Nat.le_refl _)
theorem lastW_all {s : Int} {r : List Int} : ∀ {W : List (Int × List Int)}, (∀ x ∈ W, x.1 = s → x.2 = r) → (∃ x ∈ W, x.1 = s) → lastW W s = some r := by
 have key : ∀ (W : List (Int × List Int)) (o : Option (List Int)), (∀ x ∈ W, x.1 = s → x.2 = r) → (o = some r ∨ ∃ x ∈ W, x.1 = s) → W.foldl (fun r y => if y.1 = s then some y.2 else r) o = some r := by
  intro W
  induction W with
  | nil =>
   intro o _ h
   rcases h with h | ⟨x, hx, _⟩
   ·exact h
   ·simp at hx
  | cons y W ih =>
   intro o h1 h2
   rw [List.foldl_cons]
   refine ih _ (fun x hx => h1 x (by simp [hx])) ?_
   by_cases e : y.1 = s
   ·rw [if_pos e, h1 y (by simp) e]; exact .inl rfl
   ·rw [if_neg e]
    rcases h2 with h2 | ⟨x, hx, hx2⟩
    ·exact .inl h2
    ·rcases List.mem_cons.1 hx with rfl | hx
     ·exact absurd hx2 e
     ·exact .inr ⟨x, hx, hx2⟩
 exact fun {W} h1 h2 => key W _ h1 (.inr h2)
theorem cell_sync {d : Disk} (hd : diskOk d = true) {s : Int} {r : List Int} (hs : 0 ≤ s) (h : ∀ x ∈ d.wait, x.1 = s → x.2 = r) (h2 : ∃ x ∈ d.wait, x.1 = s) : cell (fallF d [] true) s = r := by
 have h1 := sync_at hd hs d.wait.length (Nat.le_refl _)
 rw [List.take_length, lastW_all h h2] at h1
 rw [fall_yes hd]
 exact h1
theorem wrote_yes2 {d : Disk} {s : Int} {row : List Int} (hd : diskOk d = true) (hs : 0 ≤ s ∧ s < d.kept.length) (hr : rowOk row = true) (hw : d.wait.length < 60) : wroteF d s row = (⟨d.kept, d.wait ++ [(s, row)]⟩, true) := by
 refine wrote_yes hd ?_
 unfold wroteOk
 rw [hasAt_iff.2 hs, hr]
 simpa using hw
theorem both_yes2 {t : Two} {s : Int} {row : List Int} (ht : twoOk t = true) (hs : 0 ≤ s ∧ s < t.a.kept.length) (hr : canSum row = true) (hwa : t.a.wait.length < 60) (hwb : t.b.wait.length < 60) : bothWroteF t s row = (⟨⟨t.a.kept, t.a.wait ++ [(s, withSumF row)]⟩, ⟨t.b.kept, t.b.wait ++ [(s, withSumF row)]⟩⟩, true) := by
 obtain ⟨h1, h2, h3⟩ := twoOk_iff.1 ht
 unfold bothWroteF
 rw [ht, hr, wrote_yes2 h1 hs (ws_ok hr) hwa, wrote_yes2 h2 om (ws_ok hr) hwb]
 rfl
theorem set_mix {α : Type} {L K : List α} {k : Nat} (hk : k < L.length) (hK : K.length = L.length) : (L.take k ++ K.drop k).set k L[k] = L.take (k + 1) ++ K.drop (k + 1) := by
 have e1 : (L.take k).length = k := by rw [List.length_take]; omega
 rw [List.take_succ_eq_append_getElem hk, List.drop_eq_getElem_cons (show k < K.length by omega), List.set_append_right _ _ om, e1, Nat.sub_self, List.set_cons_zero, List.append_assoc]
 rfl
theorem mem_set' {α : Type} {l : List α} {k : Nat} {x y : α} (h : y ∈ l.set k x) : y ∈ l ∨ y = x := List.mem_or_eq_of_mem_set h
theorem mended_rest {t : Two} {s : Int} {row : List Int} (h : Rest t) (hs : 0 ≤ s ∧ s < 22) (hr : canSum row = true) : mendedF t s row = ⟨⟨t.a.kept.set s.toNat (withSumF row), []⟩, ⟨t.b.kept.set s.toNat (withSumF row), []⟩⟩ ∧ Rest ⟨⟨t.a.kept.set s.toNat (withSumF row), []⟩, ⟨t.b.kept.set s.toNat (withSumF row), []⟩⟩ := by
 obtain ⟨h1, h2, h3, h4, h5⟩ := h.parts
 have hb := both_yes2 (s := s) h1 om hr (by rw [h.wa]; simp) (by rw [h.wb]; simp)
 have hok := both_ok (x := s) (row := row) h1
 rw [h.wa, h.wb, List.nil_append] at hb
 rw [hb] at hok
 have k1 := twoOk_both hok
 have e : mendedF t s row = ⟨⟨t.a.kept.set s.toNat (withSumF row), []⟩, ⟨t.b.kept.set s.toNat (withSumF row), []⟩⟩ := by
  unfold mendedF
  rw [hb]
  simp only [if_true]
  rw [bsync_yes hok, fall_yes k1.1, fall_yes k1.2]
  simp [fallUp, fallStep]
 refine ⟨e, ?_, rfl, rfl⟩
 have hrow : ∀ (K : List (List Int)), (∀ r ∈ K, rowOk r = true) → ∀ r ∈ K.set s.toNat (withSumF row), rowOk r = true := fun K hK r hr2 => by
  rcases mem_set' hr2 with h9 | h9
  ·exact hK r h9
  ·rw [h9]; exact ws_ok hr
 refine keptOk_iff.2 ⟨twoOk_iff.2 ⟨diskOk_rest (by simp; omega) (by simp; omega) (hrow _ (diskOk_sizes h2).2.2.2.1), diskOk_rest (by simp; omega) (by simp; omega) (hrow _ (diskOk_sizes h3).2.2.2.1), by simp; omega⟩, by simpa using h4⟩
theorem mend_run {t : Two} {R : List (List Int)} (h : Rest t) (hl : R.length = 22) (hr : ∀ r ∈ R, canSum r = true) : ∀ k, k ≤ 22 → mendUp R t k = ⟨⟨(R.map withSumF).take k ++ t.a.kept.drop k, []⟩, ⟨(R.map withSumF).take k ++ t.b.kept.drop k, []⟩⟩ ∧ Rest (mendUp R t k)
 | 0, _ => by
  have e : mendUp R t 0 = t := rfl
  rw [e]
  refine ⟨?_, h⟩
  have h1 := h.wa
  have h2 := h.wb
  obtain ⟨⟨ka, wa⟩, ⟨kb, wb⟩⟩ := t
  simp only at h1 h2
  subst h1; subst h2
  simp
 | k + 1, hk => by
  obtain ⟨e, h1⟩ := mend_run h hl hr k om
  obtain ⟨_, _, _, h4, h5⟩ := h.parts
  have hkl : k < R.length := by omega
  have hg : R.getD k [] = R[k] := by simp [List.getD_eq_getElem?_getD, List.getElem?_eq_getElem hkl]
  obtain ⟨m1, m2⟩ := mended_rest (s := (k : Int)) (row := R[k]) h1 om (hr _ (List.getElem_mem hkl))
  have e2 : mendUp R t (k + 1) = mendedF (mendUp R t k) k R[k] := by simp only [mendUp, hg]
  have hm : withSumF R[k] = (R.map withSumF)[k]'(by simpa using hkl) := by simp
  rw [e2, m1, e]
  refine ⟨?_, by rw [e] at m2; exact m2⟩
  simp only [Int.toNat_natCast]
  rw [hm, set_mix (by simpa using hkl) (by simp; omega), set_mix (by simpa using hkl) (by simp; omega)]
theorem mend_all {t : Two} {R : List (List Int)} (h : Rest t) (hl : R.length = 22) (hr : ∀ r ∈ R, canSum r = true) : mendUp R t 22 = ⟨⟨R.map withSumF, []⟩, ⟨R.map withSumF, []⟩⟩ ∧ Rest ⟨⟨R.map withSumF, []⟩, ⟨R.map withSumF, []⟩⟩ := by
 obtain ⟨e, h1⟩ := mend_run h hl hr 22 (Nat.le_refl _)
 obtain ⟨_, _, _, h4, h5⟩ := h.parts
 have e2 : (R.map withSumF).take 22 = R.map withSumF := List.take_of_length_le (by simp; omega)
 rw [e2, List.drop_of_length_le om, List.drop_of_length_le om, List.append_nil] at e
 rw [e] at h1
 exact ⟨e, h1⟩
theorem nil_sum : canSum [] = true := by decide
theorem recRows_sum {h : Head} (hh : headOk h = true) {es : List Entry} (he : ∀ e ∈ es, entryOk e = true) : ∀ r ∈ recRows h es, canSum r = true := by
 have key : ∀ (es : List Entry), (∀ e ∈ es, entryOk e = true) → ∀ (R : List (List Int)), (∀ r ∈ R, canSum r = true) → ∀ r ∈ es.foldl setE R, canSum r = true := by
  intro es
  induction es with
  | nil => intro _ R h; exact h
  | cons e es ih =>
   intro he R h
   refine ih (fun x hx => he x (by simp [hx])) _ fun r hr => ?_
   rcases mem_set' hr with h9 | h9
   ·exact h r h9
   ·rw [h9]; exact slot_sum (he e (by simp))
 refine key es he _ fun r hr => ?_
 rcases mem_set' hr with h9 | h9
 ·rw [List.eq_of_mem_replicate h9]; exact nil_sum
 ·rw [h9]; exact head_sum hh
theorem slot_ne {i j : Int} (h : i ≠ j) (h1 : i - j < 20) (h2 : j - i < 20) : slotF i ≠ slotF j := by unfold slotF; omega
def recD (h : Head) (es : List Entry) : Disk := ⟨(recRows h es).map withSumF, []⟩
section
variable {h : Head} {time : Int} {es : List Entry}
theorem rec_run {t : Two} (hk : keptOk t = true) (hi : headIn t = (h, true)) (hh : headOk h = true) (hbk : bookInF t h = ⟨h.base, h.time, es⟩) (hb : bookOk ⟨h.base, h.time, es⟩ = true) : recF t = (⟨recD h es, recD h es⟩, h, ⟨h.base, h.time, es⟩, true) ∧ Rest ⟨recD h es, recD h es⟩ := by
 have he : ∀ e ∈ es, entryOk e = true := fun e hm => ents_ok (book_bd hb).2.2.2.2 e hm
 obtain ⟨e1, e2⟩ := mend_all (rest_sync hk) (recRows_len h es) (recRows_sum hh he)
 refine ⟨?_, e2⟩
 rw [rec_yes (by rw [hi]), hi]
 simp only [hbk]
 rw [e1]
 rfl
end
structure Ask where
 client : Int
 seq : Int
 kind : Int
 a : Int
 b : Int
 c : Int
 d : Int
@[reducible] def askC (a : Ask) : List C := [iC a.client, iC a.seq, iC a.kind, iC a.a, iC a.b, iC a.c, iC a.d]
def askOkF (a : Ask) : Bool := askerOk a.client && (seqOk a.seq && opOk a.kind a.a a.b a.c a.d)
def entA (n : LogN) (a : Ask) (now : Int) : Entry := ⟨lastB n.book + 1, max now (timeB n.book), a.client, a.seq, a.kind, a.a, a.b, a.c, a.d⟩
def keptEntryF (t : Two) (e : Entry) : Two × Bool := if keptOk t then if entryOk e then bothWroteF t (slotF e.index) (slotRowF e) else (t, false) else (zeroT, false)
theorem ke_yes {t : Two} {e : Entry} (h : keptOk t = true) (he : entryOk e = true) : keptEntryF t e = bothWroteF t (slotF e.index) (slotRowF e) := by simp [keptEntryF, h, he]
theorem slotRow_ne {e : Entry} (h : entryOk e = true) : slotRowF e ≠ [] := by
 rw [slotRow_yes h]
 simp [Entry.nums]
def withE (n : LogN) (e : Entry) : LogN := ⟨(keptEntryF n.two e).1, n.head, n.next, n.more, appF n.book e, (markedF n.seen e).1, n.durable, n.owe ++ [ackF e]⟩
def takesA (n : LogN) (e : Entry) : Bool := fitsF n.book e && (keptEntryF n.two e).2
def freshLogF (n : LogN) (a : Ask) (now : Int) : LogN := if takesA n (entA n a now) then withE n (entA n a now) else n
theorem book_time {b : Book} (hb : bookOk b = true) : timeOk (timeB b) = true := by
 have hbd := book_bd hb
 cases hl : b.entries.length with
 | zero => rw [timeB_nil hl]; exact hbd.2.2.2.1
 | succ m =>
  rw [timeB_last hl]
  have := ents_ok hbd.2.2.2.2 _ (List.getElem_mem (show m < b.entries.length by omega))
  simp only [entryOk, Bool.and_eq_true] at this
  exact this.2.1
theorem entA_ok {n : LogN} {a : Ask} {now : Int} (hb : bookOk n.book = true) (ha : askOkF a = true) (hn : timeOk now = true) (h : lastB n.book < 2000) : entryOk (entA n a now) = true := by
 simp only [askOkF, Bool.and_eq_true] at ha
 have h1 := book_last hb
 have h2 := inB_iff.1 (book_time hb)
 have h3 := inB_iff.1 hn
 have h4 : timeOk (max now (timeB n.book)) = true := inB_iff.2 ⟨by omega, by omega⟩
 have h5 : indexOk (lastB n.book + 1) = true := inB_iff.2 ⟨by omega, by omega⟩
 simp only [entA, entryOk, h4, h5, ha.1, ha.2.1, ha.2.2, Bool.and_self]
theorem entA_fits {n : LogN} {a : Ask} {now : Int} (hb : bookOk n.book = true) (ha : askOkF a = true) (hn : timeOk now = true) (h : lastB n.book < 2000) (h2 : n.book.entries.length < 20) : fitsF n.book (entA n a now) = true :=
 fits_iff.2 ⟨entA_ok hb ha hn h, rfl, by show max now (timeB n.book) ≥ timeB n.book; omega, h2⟩
theorem book_last2 {b : Book} (hb : bookOk b = true) : lastB b ≤ 2000 := by
 cases hl : b.entries.length with
 | zero => have := book_bd hb; unfold lastB; omega
 | succ m =>
  have hm : m < b.entries.length := by omega
  have h1 := ent_ix hb m hm
  have h2 := entry_ix (ents_ok (book_bd hb).2.2.2.2 _ (List.getElem_mem hm))
  unfold lastB
  omega
def askedF (n : LogN) (a : Ask) (now : Int) : LogN × List Ack :=
 if logOkF n then
  if askOkF a && timeOk now then
   if (findM n.seen a.client).seq < a.seq then (freshLogF n a now, [])
   else if a.seq < (findM n.seen a.client).seq then (n, [⟨a.client, a.seq, 0, (findM n.seen a.client).seq⟩])
   else if n.durable < (findM n.seen a.client).index then (n, []) else (n, [⟨a.client, a.seq, (findM n.seen a.client).index, (findM n.seen a.client).seq⟩])
  else (n, [])
 else (zeroL, [])
section
variable {n : LogN} {a : Ask} {now : Int}
theorem ak_fresh (h : logOkF n = true) (h2 : askOkF a = true) (h3 : timeOk now = true) (h4 : a.seq > (findM n.seen a.client).seq) : askedF n a now = (freshLogF n a now, []) := by
 have h5 : (findM n.seen a.client).seq < a.seq := h4
 simp [askedF, h, h2, h3, h5]
theorem ak_old (h : logOkF n = true) (h2 : askOkF a = true) (h3 : timeOk now = true) (h4 : a.seq < (findM n.seen a.client).seq) : askedF n a now = (n, [⟨a.client, a.seq, 0, (findM n.seen a.client).seq⟩]) := by
 have h5 : ¬ (findM n.seen a.client).seq < a.seq := by omega
 simp [askedF, h, h2, h3, h5, h4]
theorem ak_wait (h : logOkF n = true) (h2 : askOkF a = true) (h3 : timeOk now = true) (h4 : a.seq = (findM n.seen a.client).seq) (h6 : (findM n.seen a.client).index > n.durable) : askedF n a now = (n, []) := by
 have h5 : n.durable < (findM n.seen a.client).index := h6
 simp [askedF, h, h2, h3, h4, h5]
theorem ak_told (h : logOkF n = true) (h2 : askOkF a = true) (h3 : timeOk now = true) (h4 : a.seq = (findM n.seen a.client).seq) (h6 : ¬ (findM n.seen a.client).index > n.durable) : askedF n a now = (n, [⟨a.client, a.seq, (findM n.seen a.client).index, (findM n.seen a.client).seq⟩]) := by
 have h5 : ¬ n.durable < (findM n.seen a.client).index := h6
 simp [askedF, h, h2, h3, h4, h5]
end
theorem c_SlotOf' (x : Int) (h : indexOk x = true) : Pure Try.prog 45 [one (iC x)] (iR (slotF x)) := by
 refine pure_intro (N := 8) Try.func45 rfl rfl rfl rfl (fun H w => ?_)
 have hx := inB_iff.1 h
 refine sq (rg (xs rfl rfl (nl (et (sq (sq (rg (xm rfl rfl (evl_call (nm := 4) (cf rfl) (c_indexOk' _) (rs_of rfl) rfl rfl rfl (xo (q_not rfl) rfl (nl (et (ev_cond_n rfl (fun h1 => ?_) (fun h1 => ?_))))))))))))))
 ·refine sq (rg (xs rfl rfl (nl (et (ev_ret (evr_then (ret_pure' ttOk rfl rfl ?_)))))))
  first
  | rfl
  | (exfalso; simp_all; done)
 ·refine ev_skip (et (sq (rg (xm rfl rfl (evl_call (nm := 7) (cf rfl) (c_slotOf x om) (rs_of rfl) rfl rfl rfl (xs rfl rfl (nl (et (ev_ret (ret_pure' ttOk rfl rfl ?_))))))))))
  first
  | rfl
  | (exfalso; simp_all; done)
theorem c_KeptEntry' (t : Two) (e : Entry) (he : entryOk e = true) : Pure Try.prog 20 [many (twoC t), many (entryC e)] [many' (twoR ((keptEntryF t e).1)), one' (RC.v (.bool ((keptEntryF t e).2)))] := by
 refine pure_intro (N := 15) Try.func20 rfl rfl rfl rfl (fun H w => ?_)
 have hix := entry_ix he
 refine sq (rg (evl_e (e_box rfl rfl rfl rfl) (evl_e (e_box rfl rfl rfl rfl) (evl_e (e_alloc ttOk rfl rfl rfl rfl) (xs rfl rfl (nl (et (sq (ev_drawq [9] mo (rk0 0 rfl (q_load ttOk rfl) rfl (rk0 1 rfl (q_fieldAddr ttOk rfl) rfl (rk0 2 rfl (q_load ttOk rfl) rfl (rk0 4 rfl (q_load ttOk rfl) rfl (rdk_one 3 kr (rdo_call (nm := 9) rfl trivial (cf rfl) (c_SlotOf' e.index (inB_iff.2 hix)) (rs_of rfl) rfl rfl rfl (rdk_one 5 kr (rdo_call (nm := 11) rfl trivial (cf rfl) (c_SlotRow' e he) (rs_of rfl) rfl rfl rfl (rdk_one 6 kr (rdo_call (nm := 12) rfl trivial (cf rfl) (c_keptRow t (slotF e.index) (slotRowF e) (slotRow_ne he)) (rs_of rfl) rfl rfl rfl (rk0 7 rfl (q_ext rfl) rfl (rk0 8 rfl (q_ext rfl) rfl (rdk_one 9 kr (rdo_brk rfl rfl trivial (e_store ttOk rfl) (rdb_q 10 rfl kr trivial (q_assign rfl) rfl (rdb_endq kr (et (ev_ret (ret_pureN ttOk rfl rfl ?_))))))))))))))))))))))))))))
 rw [show keptEntryF t e = keptRowF t (slotF e.index) (slotRowF e) by simp only [keptEntryF, keptRowF]; rw [he]; rfl]; simp [RpLe, L2, RcLe]
theorem eqHd_refl {h : Head} : eqHd h h = true := by simp [eqHd, eqN]
theorem log_mk {n : LogN} (h1 : keptOk n.two = true) (h2 : headOk n.head = true) (h3 : bookOk n.book = true) (h4 : n.book.base = n.head.base) (h5 : n.book.time = n.head.time) (h6 : overL n.head.seen n.book.entries = some n.seen) (h7 : n.book.base ≤ n.durable ∧ n.durable ≤ lastB n.book)
  (h8 : n.owe = (partF n.book (n.durable + 1) 2000).map ackF) (h9 : if n.more then n.head.base + 1 ≤ n.next.base ∧ n.next.base ≤ n.durable ∧ n.next = nextF n n.next.base else n.next = noHead) : logOkF n = true := by
 have hs := (head_bd h2).2.2.2.2
 have e := so4 hs (by have := book_bd h3; omega) h6
 simp only [logOkF, frontF, midF, owesF, Bool.and_eq_true, decide_eq_true_eq]
 refine ⟨⟨h1, h2, h3, h4, h5⟩, ⟨by rw [e], by rw [e]; exact eqN_refl, inB_iff.2 h7⟩, by rw [← h8]; exact eqN_refl, ?_⟩
 cases hm : n.more with
 | false =>
  rw [hm] at h9
  simp only [Bool.false_eq_true, if_false] at h9 ⊢
  rw [h9]; exact eqHd_refl
 | true =>
  rw [hm] at h9
  simp only [if_true] at h9 ⊢
  rw [Bool.and_eq_true]
  refine ⟨inB_iff.2 ⟨h9.1, h9.2.1⟩, ?_⟩
  rw [← h9.2.2]; exact eqHd_refl
theorem log_dur {n : LogN} (h : logOkF n = true) : n.book.base ≤ n.durable ∧ n.durable ≤ lastB n.book := inB_iff.1 (log_facts h).2
theorem overL_append : ∀ {es fs : List Entry} {l : List Mark}, overL l (es ++ fs) = (overL l es).bind fun c => overL c fs
 | [], fs, l => rfl
 | e :: es, fs, l => by
  simp only [List.cons_append, overL]
  split
  ·exact overL_append
  ·rfl
theorem ents_drop {l : List Entry} (h : entriesOk l = true) (k : Nat) : entriesOk (l.drop k) = true := by
 obtain ⟨h1, h2⟩ := entriesOk_iff.1 h
 refine entriesOk_iff.2 ⟨by rw [List.length_drop]; omega, fun q hq => ?_⟩
 have hql : k + q < l.length := by rw [List.length_drop] at hq; omega
 have h3 := h2 (k + q) hql
 rw [entStep_at hql] at h3
 rw [entStep_at hq]
 have e1 : (l.drop k)[q] = l[k + q] := by simp
 rw [e1]
 simp only [Bool.and_eq_true] at h3 ⊢
 refine ⟨h3.1, ?_⟩
 cases q with
 | zero => rfl
 | succ j =>
  have h4 : entOver l ((k + j) + 1) (l[k + (j + 1)]'hql) = true := h3.2
  have hj : k + j < l.length := by omega
  simp only [entOver, List.getElem?_drop, List.getElem?_eq_getElem hj] at h4 ⊢
  exact h4
theorem time_at {b : Book} {x : Int} (h1 : b.base < x) (h2 : x ≤ lastB b) : ∃ m, ∃ hm : m < b.entries.length, x = b.base + 1 + m ∧ timeAtF b x = b.entries[m].time := by
 obtain ⟨m, hm1, hm2⟩ := at_get h1 h2
 refine ⟨m, hm2, by omega, ?_⟩
 unfold timeAtF
 rw [if_neg om, atB_eq hm1 hm2]
theorem book_drop {b : Book} (hb : bookOk b = true) {x : Int} (h1 : b.base ≤ x) (h2 : x ≤ lastB b) : bookOk ⟨x, timeAtF b x, b.entries.drop (x - b.base).toNat⟩ = true := by
 have hbd := book_bd hb
 have h9 := hb
 simp only [bookOk, Bool.and_eq_true, decide_eq_true_eq] at h9
 have hl2 := book_last2 hb
 by_cases e : x = b.base
 ·subst e
  have : timeAtF b b.base = b.time := by simp [timeAtF]
  rw [this, Int.sub_self]
  exact hb
 ·obtain ⟨m, hm, hx, ht⟩ := time_at (b := b) (x := x) om h2
  have hk : (x - b.base).toNat = m + 1 := by omega
  have hem := ents_ok hbd.2.2.2.2 _ (List.getElem_mem hm)
  have htm : timeOk b.entries[m].time = true := by
   simp only [entryOk, Bool.and_eq_true] at hem
   exact hem.2.1
  rw [hk, ht]
  simp only [bookOk, Bool.and_eq_true, decide_eq_true_eq]
  refine ⟨inB_iff.2 ⟨by omega, by omega⟩, htm, ?_, by rw [List.length_drop]; omega, ents_drop hbd.2.2.2.2 _, ?_⟩
  ·have : ¬ x = 0 := by omega
   simp [this]
  ·cases hl : b.entries.drop (m + 1) with
   | nil => rfl
   | cons a l =>
    have hlen : m + 1 < b.entries.length := by
     have := congrArg List.length hl
     simp only [List.length_drop, List.length_cons] at this
     omega
    rw [List.drop_eq_getElem_cons hlen] at hl
    cases hl
    have hst := (entriesOk_iff.1 hbd.2.2.2.2).2 (m + 1) hlen
    rw [entStep_at hlen, entOver_at hlen om] at hst
    simp only [Bool.and_eq_true, decide_eq_true_eq] at hst
    have hix := ent_ix hb (m + 1) hlen
    simp only [Bool.and_eq_true, decide_eq_true_eq]
    exact ⟨by omega, by simpa using hst.2.2⟩
theorem part_none {b : Book} (hb : bookOk b = true) : partF b (lastB b + 1) 2000 = [] := by
 unfold partF
 refine List.filter_eq_nil_iff.2 fun e he => ?_
 obtain ⟨j, hj, rfl⟩ := List.mem_iff_getElem.1 he
 have := ent_ix hb j hj
 unfold lastB
 simp only [inB, Bool.and_eq_true, decide_eq_true_eq]
 omega
theorem log_bases {n : LogN} (h : logOkF n = true) : n.book.base = n.head.base ∧ n.book.time = n.head.time := ⟨(log_all h).2.2.2.1, (log_all h).2.2.2.2⟩
theorem next_over {n : LogN} (h : logOkF n = true) {x : Int} (h1 : n.book.base ≤ x) (h2 : x ≤ lastB n.book) : overL n.head.seen (n.book.entries.take (x - n.book.base).toNat) = some (nextF n x).seen ∧ overL (nextF n x).seen (n.book.entries.drop (x - n.book.base).toNat) = some n.seen := by
 obtain ⟨hk, hh, hb, he, ht⟩ := log_all h
 obtain ⟨h3, h4, h5⟩ := log_seen h
 have hs := (head_bd hh).2.2.2.2
 have hbd := book_bd hb
 obtain ⟨c, hc⟩ := over_prefix h3 (x - n.book.base).toNat
 have e : (nextF n x).seen = c := by
  unfold nextF
  simp only
  rw [part_take hb, so4 hs (by rw [List.length_take]; omega) hc]
 rw [e]
 refine ⟨hc, ?_⟩
 have h6 := h3
 rw [← List.take_append_drop (x - n.book.base).toNat n.book.entries, overL_append, hc] at h6
 exact h6
theorem sync_ok {n : LogN} (h : logOkF n = true) : logOkF (syncedF n).1 = true := by
 obtain ⟨hk, hh, hb, he, ht⟩ := log_all h
 have hd := log_dur h
 cases hm : n.more
 ·rw [sy_less h hm]
  refine log_mk (by rw [kept_sync]; exact hk) hh hb he ht (log_seen h).1 ⟨by unfold lastB; simp only; omega, Int.le_refl _⟩ ?_ ?_
  ·simp only; rw [part_none hb]; rfl
  ·simp only [hm]; exact log_less h hm
 ·obtain ⟨h1, h2, h3, h4⟩ := log_next h hm
  rw [sy_more h hm]
  have hx1 : n.book.base ≤ n.next.base := by omega
  have hx2 : n.next.base ≤ lastB n.book := by omega
  have hbo := book_drop hb hx1 hx2
  have hov := (next_over h hx1 hx2).2
  rw [← h4] at hov
  have hnt : timeAtF n.book n.next.base = n.next.time := (congrArg Head.time h4).symm
  have hlast : lastB ⟨n.next.base, timeAtF n.book n.next.base, n.book.entries.drop (n.next.base - n.book.base).toNat⟩ = lastB n.book := by
   unfold lastB at hx2 ⊢
   simp only [List.length_drop]
   omega
  have htr := tr_yes hb (inB_iff.2 ⟨hx1, hx2⟩)
  rw [htr]
  refine log_mk (by rw [kept_sync]; exact hk) h1 hbo rfl hnt hov ⟨by unfold lastB at hx2 ⊢; simp only; omega, by rw [hlast]; exact Int.le_refl _⟩ ?_ ?_
  ·simp only
   have := part_none hbo
   rw [hlast] at this
   rw [this]; rfl
  ·simp only [Bool.false_eq_true, if_false]
theorem part_app {b : Book} {e : Entry} {x y : Int} (h : y < e.index) : partF (appF b e) x y = partF b x y := by
 unfold partF appF
 simp only [List.filter_append]
 have : ([e] : List Entry).filter (fun e => inB e.index x y) = [] := by
  refine List.filter_eq_nil_iff.2 fun z hz => ?_
  rw [List.mem_singleton.1 hz]
  simp only [inB, Bool.and_eq_true, decide_eq_true_eq]
  omega
 rw [this, List.append_nil]
theorem time_app {b : Book} {e : Entry} {x : Int} (h1 : b.base ≤ x) (h2 : x ≤ lastB b) : timeAtF (appF b e) x = timeAtF b x := by
 by_cases e1 : x = b.base
 ·subst e1; simp [timeAtF, appF]
 ·obtain ⟨m, hm1, hm2⟩ := at_get (b := b) (x := x) om h2
  unfold timeAtF
  rw [if_neg (by simpa [appF] using e1), if_neg e1, atB_eq hm1 hm2, atB_eq (b := appF b e) (m := m) hm1 (by simp [appF]; omega)]
  simp [appF, List.getElem_append, hm2]
theorem next_app {n : LogN} {e : Entry} {x : Int} (h1 : n.book.base ≤ x) (h2 : x ≤ lastB n.book) (he : e.index = lastB n.book + 1) : nextF (withE n e) x = nextF n x := by
 unfold nextF withE
 simp only
 rw [time_app h1 h2, part_app om]
 rfl
theorem part_app2 {b : Book} {e : Entry} {x : Int} (h1 : x ≤ e.index) (h2 : e.index ≤ 2000) : partF (appF b e) x 2000 = partF b x 2000 ++ [e] := by
 unfold partF appF
 simp only [List.filter_append]
 congr 1
 rw [List.filter_cons_of_pos (by simp only [inB, Bool.and_eq_true, decide_eq_true_eq]; omega)]
 rfl
theorem fresh_of {n : LogN} {e : Entry} (h : logOkF n = true) (h1 : entryOk e = true) (h2 : (findM n.seen e.client).seq < e.seq) (h3 : e.index = lastB n.book + 1) : freshF n.seen e = true := by
 obtain ⟨hk, hh, hb, he, ht⟩ := log_all h
 obtain ⟨h4, h5, h6⟩ := log_seen h
 have hl : lastF n.seen = lastB n.book := by
  cases hl : n.book.entries.length with
  | zero =>
   rw [List.eq_nil_of_length_eq_zero hl] at h4
   have h4' : n.head.seen = n.seen := Option.some.inj h4
   have hx : lastF n.head.seen = n.head.base := by
    simp only [headOk, Bool.and_eq_true, decide_eq_true_eq] at hh
    exact hh.2.2.2.2.2
   unfold lastB
   rw [← h4', hx, hl]
   omega
  | succ m =>
   have hm : m < n.book.entries.length := by omega
   have h8 := over_last (c := n.seen) h5 hm (by rw [List.take_of_length_le om]; exact h4)
   have h9 := ent_ix hb m hm
   unfold lastB
   omega
 unfold freshF
 rw [h1]
 simp only [Bool.true_and, Bool.and_eq_true, decide_eq_true_eq]
 omega
theorem ask_ok {n : LogN} {e : Entry} (h : logOkF n = true) (hf : fitsF n.book e = true) (hfr : freshF n.seen e = true) (hk : (keptEntryF n.two e).2 = true) (hk2 : keptOk (keptEntryF n.two e).1 = true) : logOkF (withE n e) = true := by
 obtain ⟨h1, hh, hb, he, ht⟩ := log_all h
 obtain ⟨h4, h5, h6⟩ := log_seen h
 have hd := log_dur h
 have hi := fits_iff.1 hf
 have hix := entry_ix hi.1
 have hl : lastB (appF n.book e) = lastB n.book + 1 := by simp only [lastB, appF, List.length_append, List.length_singleton]; omega
 refine log_mk hk2 hh (app_ok hb hf) he ht ?_ ?_ ?_ ?_
 ·show overL n.head.seen (n.book.entries ++ [e]) = some (markedF n.seen e).1
  rw [overL_snoc, h4]
  simp only [Option.bind_some]
  rw [if_pos hfr, mk_yes (of_sok h6) hfr]
 ·show n.book.base ≤ n.durable ∧ n.durable ≤ lastB (appF n.book e)
  omega
 ·show n.owe ++ [ackF e] = (partF (appF n.book e) (n.durable + 1) 2000).map ackF
  rw [part_app2 om om, List.map_append, ← log_owe h]
  rfl
 ·show if n.more then _ else _
  cases hm : n.more
  ·exact log_less (n := n) h hm
  ·obtain ⟨k1, k2, k3, k4⟩ := log_next h hm
   simp only [if_true]
   refine ⟨?_, k3, ?_⟩
   ·show n.head.base + 1 ≤ n.next.base; omega
   ·rw [next_app (by show n.book.base ≤ n.next.base; omega) (by show n.next.base ≤ lastB n.book; omega) hi.2.1]; exact k4
end Go.Proofs.Ytahkjonokeifmaa
