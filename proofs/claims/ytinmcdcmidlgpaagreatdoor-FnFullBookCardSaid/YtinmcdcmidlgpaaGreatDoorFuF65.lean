/- Walks of functions of the program, printed by a program of the prover. -/
import Derived.Test.YtinmcdcmidlgpaaGreatDoorFuF50
import Derived.Test.YtinmcdcmidlgpaaGreatDoorFuVDC
namespace Go.Proofs.YtinmcdcmidlgpaaGreatDoor
open Go.ChangeShapes Go.WideShapes Go.ChangeAt Go.RowKit
set_option linter.unusedVariables false
set_option linter.unusedSimpArgs false
set_option maxHeartbeats 1000000
set_option maxRecDepth 100000
attribute [local irreducible] EvL Ev EvE Quiet Eff Pure RDk RDb RDo
theorem rowOk_iff {l : List Int} : rowOk l = true ↔ l.length ≤ 48 ∧ ∀ x ∈ l, 0 ≤ x ∧ x ≤ 1000000000 := by
 simp only [rowOk, Bool.and_eq_true, decide_eq_true_eq, List.all_eq_true, numOk_iff]
theorem canSum_iff {l : List Int} : canSum l = true ↔ l.length < 48 ∧ ∀ x ∈ l, 0 ≤ x ∧ x ≤ 1000000000 := by
 simp only [canSum, Bool.and_eq_true, decide_eq_true_eq, rowOk_iff]
 exact ⟨fun h => ⟨h.2, h.1.2⟩, fun h => ⟨⟨by omega, h.2⟩, h.1⟩⟩
theorem ws_ok {l : List Int} (h : canSum l = true) : rowOk (withSumF l) = true := by
 rw [withSum_yes h]
 obtain ⟨h1, h2⟩ := canSum_iff.1 h
 have h3 := sum_rng l
 refine rowOk_iff.2 ⟨by simp; omega, fun x hx => ?_⟩
 rcases List.mem_append.1 hx with hx | hx
 ·exact h2 x hx
 ·rw [List.mem_singleton.1 hx]; omega
theorem opOk_rng {k a b c d : Int} (h : opOk k a b c d = true) : (0 ≤ k ∧ k ≤ 1000000000) ∧ (0 ≤ a ∧ a ≤ 1000000000) ∧ (0 ≤ b ∧ b ≤ 1000000000) ∧ (0 ≤ c ∧ c ≤ 1000000000) ∧ (0 ≤ d ∧ d ≤ 1000000000) := by
 unfold opOk at h
 simp only [inB, timeOk, Bool.and_eq_true, Bool.or_eq_true, decide_eq_true_eq] at h
 repeat' split at h
 all_goals first
  | omega
  | (simp only [Bool.and_eq_true, decide_eq_true_eq] at h; omega)
  | simp at h
theorem ent_rng {e : Entry} (h : entryOk e = true) : ∀ x ∈ e.nums, 0 ≤ x ∧ x ≤ 1000000000 := by
 simp only [entryOk, indexOk, timeOk, askerOk, seqOk, inB, Bool.and_eq_true, decide_eq_true_eq] at h
 obtain ⟨h1, h2, h3, h4, h5⟩ := h
 have h6 := opOk_rng h5
 intro x hx
 simp only [Entry.nums, List.mem_cons, List.not_mem_nil, or_false] at hx
 omega
theorem slot_len {e : Entry} (h : entryOk e = true) : (slotRowF e).length = 11 := by
 unfold slotRowF
 rw [h]
 simp [Entry.nums]
theorem slot_sum {e : Entry} (h : entryOk e = true) : canSum (slotRowF e) = true := by
 refine canSum_iff.2 ⟨by rw [slot_len h]; omega, fun x hx => ?_⟩
 unfold slotRowF at hx
 rw [h, if_pos rfl] at hx
 have h1 := entry_ix h
 rcases List.mem_append.1 hx with hx | hx
 ·exact ent_rng h x hx
 ·simp only [List.mem_cons, List.not_mem_nil, or_false] at hx; omega
def entIn (c : List Int) : Option Entry := (unsF c).bind rowSlotF
def headOn (c : List Int) : Option Head := (unsF c).bind rowHeadF
def oldS (i : Int) (c : List Int) : Prop := c.length ≤ 1 ∨ ∃ e, entryOk e = true ∧ e.index ≠ i ∧ c = withSumF (slotRowF e)
theorem find_noMark {l : List Mark} (h : SOk l) (c : Int) : (l.find? fun x => decide (x.client = c)) = none ∧ findM l c = noMark ∨ ∃ m ∈ l, m.client = c ∧ markOk m = true ∧ (l.find? fun x => decide (x.client = c)) = some m ∧ findM l c = m := by
 cases hf : l.find? fun x => decide (x.client = c) with
 | none => exact .inl ⟨rfl, by unfold findM; rw [hf]; rfl⟩
 | some m =>
  have h1 := List.find?_some hf
  have h2 := List.mem_of_find?_eq_some hf
  exact .inr ⟨m, h2, by simpa using h1, h.ok m h2, rfl, by unfold findM; rw [hf]; rfl⟩
theorem headRow_eq {h : Head} (hh : headOk h = true) : headRowF h = [h.num, h.base, h.time] ++ seenRow h.seen 4 ++ [h.num, h.num] := by
 unfold headRowF
 rw [hh]
 rfl
theorem headRow_13 {h : Head} (hh : headOk h = true) : (headRowF h).length = 13 := by
 rw [headRow_eq hh]
 simp [seenRow_len]
theorem seenRow_rng {l : List Mark} (h : SOk l) : ∀ k, ∀ x ∈ seenRow l k, 0 ≤ x ∧ x ≤ 1000000000
 | 0, x, hx => by simp [seenRow] at hx
 | k + 1, x, hx => by
  simp only [seenRow] at hx
  rcases List.mem_append.1 hx with hx | hx
  ·exact seenRow_rng h k x hx
  ·rcases find_noMark h (2 + k) with ⟨_, e2⟩ | ⟨m, _, _, hm, _, e2⟩
   ·rw [e2] at hx
    simp [noMark] at hx
    omega
   ·rw [e2] at hx
    simp only [markOk, seqOk, indexOk, inB, Bool.and_eq_true, decide_eq_true_eq] at hm
    simp only [List.mem_cons, List.not_mem_nil, or_false] at hx
    omega
theorem head_nums {h : Head} (hh : headOk h = true) : (0 ≤ h.num ∧ h.num ≤ h.base) ∧ (0 ≤ h.base ∧ h.base ≤ 2000) ∧ (0 ≤ h.time ∧ h.time ≤ 1000000) := by
 simp only [headOk, timeOk, inB, Bool.and_eq_true, decide_eq_true_eq] at hh
 omega
theorem head_sum {h : Head} (hh : headOk h = true) : canSum (headRowF h) = true := by
 refine canSum_iff.2 ⟨by rw [headRow_13 hh]; omega, fun x hx => ?_⟩
 have h1 := head_nums hh
 have hs := sok_of (head_bd hh).2.2.2.2
 rw [headRow_eq hh] at hx
 rcases List.mem_append.1 hx with hx | hx
 ·rcases List.mem_append.1 hx with hx | hx
  ·simp only [List.mem_cons, List.not_mem_nil, or_false] at hx; omega
  ·exact seenRow_rng hs 4 x hx
 ·simp only [List.mem_cons, List.not_mem_nil, or_false] at hx; omega
def lowH (k : Int) (c : List Int) : Prop := c.length ≤ 1 ∨ ∃ h, headOk h = true ∧ h.num < k ∧ c = withSumF (headRowF h)
def cell (d : Disk) (s : Int) : List Int := d.kept.getD s.toNat []
theorem read_cell {d : Disk} {s : Int} (hd : diskOk d = true) (hw : d.wait = []) (h : 0 ≤ s ∧ s < d.kept.length) : readF d s = some (cell d s) := by
 unfold readF
 rw [hd, hasAt_iff.2 h, hw]
 rfl
theorem find_right {α : Type} {f : List Int → Option α} (a b : Option (List Int)) : (rightOf a b).findSome? f = (a.bind f).or (b.bind f) := by
 cases a with
 | none => cases b <;> simp [rightOf]
 | some x =>
  cases b with
  | none => simp [rightOf]
  | some y =>
   simp only [rightOf, Option.toList_some]
   by_cases e : x = y
   ·subst e
    have : eqL x x = true := by simp [eqL]
    rw [if_pos this]
    cases hf : f x <;> simp [hf]
   ·have : eqL x y = false := by simp [eqL, e]
    rw [this]
    cases hf : f x <;> simp [hf]
structure Rest (t : Two) : Prop where
 ok : keptOk t = true
 wa : t.a.wait = []
 wb : t.b.wait = []
theorem Rest.parts {t : Two} (h : Rest t) : twoOk t = true ∧ diskOk t.a = true ∧ diskOk t.b = true ∧ t.a.kept.length = 22 ∧ t.b.kept.length = 22 := by
 obtain ⟨h1, h2⟩ := keptOk_iff.1 h.ok
 obtain ⟨h3, h4, h5⟩ := twoOk_iff.1 h1
 exact ⟨h1, h3, h4, h2, by omega⟩
theorem Rest.right {t : Two} (h : Rest t) {s : Int} (hs : 0 ≤ s ∧ s < 22) : rightF t s = rightOf (unsF (cell t.a s)) (unsF (cell t.b s)) := by
 obtain ⟨h1, h2, h3, h4, h5⟩ := h.parts
 rw [right_yes h1 (hasAt_iff.2 om), read_cell h2 h.wa om, read_cell h3 h.wb om]
 rfl
def okE (b : Book) (s : List Mark) (e : Entry) : Option Entry := if e.index = lastB b + 1 ∧ fitsF b e = true ∧ freshF s e = true then some e else none
theorem take_entIn {b : Book} {s : List Mark} (c : List Int) : (unsF c).bind (takeE b s) = (entIn c).bind (okE b s) := by
 unfold entIn
 cases unsF c with
 | none => rfl
 | some r =>
  show takeE b s r = (rowSlotF r).bind (okE b s)
  unfold takeE
  cases rowSlotF r <;> rfl
theorem slot_rng (x : Int) : 2 ≤ slotF x ∧ slotF x < 22 := by unfold slotF; omega
theorem Rest.next {t : Two} (h : Rest t) {b : Book} {s : List Mark} : nextE t b s = ((entIn (cell t.a (slotF (lastB b + 1)))).bind (okE b s)).or ((entIn (cell t.b (slotF (lastB b + 1)))).bind (okE b s)) := by
 have hs := slot_rng (lastB b + 1)
 unfold nextE
 rw [h.right om, find_right, take_entIn, take_entIn]
def hst (k : Int) (acc : Head × Bool) (o : Option Head) : Head × Bool := match o with
 | none => acc
 | some h => if h.num % 2 = k ∧ (acc.2 = false ∨ h.num > acc.1.num) then (h, true) else acc
theorem headStep_eq (k : Int) (acc : Head × Bool) (r : List Int) : headStep k acc r = hst k acc (rowHeadF r) := by
 unfold headStep hst
 cases rowHeadF r with
 | none => simp
 | some h => simp
theorem hst_yes {k : Int} {acc : Head × Bool} {h : Head} (h1 : h.num % 2 = k ∧ (acc.2 = false ∨ h.num > acc.1.num)) : hst k acc (some h) = (h, true) := if_pos h1
theorem hst_no {k : Int} {acc : Head × Bool} {h : Head} (h1 : ¬ (h.num % 2 = k ∧ (acc.2 = false ∨ h.num > acc.1.num))) : hst k acc (some h) = acc := if_neg h1
theorem hst_twice (k : Int) (acc : Head × Bool) (o : Option Head) : hst k (hst k acc o) o = hst k acc o := by
 cases o with
 | none => rfl
 | some h =>
  by_cases h1 : h.num % 2 = k ∧ (acc.2 = false ∨ h.num > acc.1.num)
  ·rw [hst_yes h1]
   exact hst_no (by simp)
  ·rw [hst_no h1, hst_no h1]
theorem fold_right (k : Int) (acc : Head × Bool) (a b : Option (List Int)) : (rightOf a b).foldl (headStep k) acc = hst k (hst k acc (a.bind rowHeadF)) (b.bind rowHeadF) := by
 cases a with
 | none =>
  cases b with
  | none => rfl
  | some y =>
   show headStep k acc y = _
   rw [headStep_eq]; rfl
 | some x =>
  cases b with
  | none =>
   show headStep k acc x = _
   rw [headStep_eq]; rfl
  | some y =>
   simp only [rightOf, Option.toList_some]
   by_cases e : x = y
   ·subst e
    have : eqL x x = true := by simp [eqL]
    rw [if_pos this]
    show headStep k acc x = _
    rw [headStep_eq]
    exact (hst_twice k acc (rowHeadF x)).symm
   ·have : eqL x y = false := by simp [eqL, e]
    rw [this]
    show headStep k (headStep k acc x) y = _
    rw [headStep_eq, headStep_eq]; rfl
theorem Rest.head {t : Two} (h : Rest t) : headIn t = hst 1 (hst 1 (hst 0 (hst 0 (noHead, false) (headOn (cell t.a 0))) (headOn (cell t.b 0))) (headOn (cell t.a 1))) (headOn (cell t.b 1)) := by
 unfold headIn
 rw [h.ok]
 show (rightF t ((1 : Nat) : Int)).foldl (headStep ((1 : Nat) : Int)) ((rightF t ((0 : Nat) : Int)).foldl (headStep ((0 : Nat) : Int)) (noHead, false)) = _
 rw [h.right (s := ((1 : Nat) : Int)) om, h.right (s := ((0 : Nat) : Int)) om, fold_right, fold_right]
 rfl
def isH (h : Head) (c : List Int) : Prop := headOn c = some h ∨ headOn c = none
theorem diskOk_rest {K : List (List Int)} (h1 : 1 ≤ K.length) (h2 : K.length ≤ 40) (h : ∀ r ∈ K, rowOk r = true) : diskOk ⟨K, []⟩ = true := by
 simp only [diskOk, Bool.and_eq_true, decide_eq_true_eq, List.all_eq_true, List.length_nil]
 exact ⟨h1, h2, by omega, h, by simp⟩
theorem wait_nat {d : Disk} (hd : diskOk d = true) {k : Nat} (hk : k < d.wait.length) {s : Int} (hs : 0 ≤ s) : d.wait[k].1.toNat = s.toNat ↔ d.wait[k].1 = s := by
 have := wait_at hd hk
 omega
theorem fallUp_miss {d : Disk} (hd : diskOk d = true) {F : List Int} {all : Bool} {s : Int} (hs : 0 ≤ s) (h : ∀ x ∈ d.wait, x.1 ≠ s) : ∀ k, k ≤ d.wait.length → (fallUp d F all k).getD s.toNat [] = cell d s
 | 0, _ => rfl
 | k + 1, hk => by
  have ih := fallUp_miss hd (F := F) (all := all) hs h k om
  have hl := fallUp_len d F all k
  have hw := wait_at hd (k := k) om
  have hne : d.wait[k].1.toNat ≠ s.toNat := fun e => h _ (List.getElem_mem (show k < d.wait.length by omega)) ((wait_nat hd om hs).1 e)
  rw [show fallUp d F all (k + 1) = fallStep (fateAt F k) all (fallUp d F all k) d.wait[k] by simp only [fallUp]; rw [getD_lenW (show k < d.wait.length by omega)]]
  simp only [fallStep]
  split
  ·rw [getD_set om, if_neg hne]; exact ih
  ·split
   ·rw [getD_set om, if_neg hne]; exact ih
   ·exact ih
theorem cell_miss {d : Disk} (hd : diskOk d = true) (F : List Int) (all : Bool) {s : Int} (hs : 0 ≤ s) (h : ∀ x ∈ d.wait, x.1 ≠ s) : cell (fallF d F all) s = cell d s := by
 rw [fall_yes hd]
 exact fallUp_miss hd hs h _ (Nat.le_refl _)
theorem lastW_all {s : Int} {r : List Int} : ∀ {W : List (Int × List Int)}, (∀ x ∈ W, x.1 = s → x.2 = r) → (∃ x ∈ W, x.1 = s) → lastW W s = some r := by
 have key : ∀ (W : List (Int × List Int)) (o : Option (List Int)), (∀ x ∈ W, x.1 = s → x.2 = r) → (o = some r ∨ ∃ x ∈ W, x.1 = s) → W.foldl (fun r y => if y.1 = s then some y.2 else r) o = some r := by
  intro W
  induction W with
  | nil =>
   intro o _ h
   rcases h with h | ⟨x, hx, _⟩
   ·exact h
   ·simp at hx
  | cons y W ih =>
   intro o h1 h2
   rw [List.foldl_cons]
   refine ih _ (fun x hx => h1 x (by simp [hx])) ?_
   by_cases e : y.1 = s
   ·rw [if_pos e, h1 y (by simp) e]; exact .inl rfl
   ·rw [if_neg e]
    rcases h2 with h2 | ⟨x, hx, hx2⟩
    ·exact .inl h2
    ·rcases List.mem_cons.1 hx with rfl | hx
     ·exact absurd hx2 e
     ·exact .inr ⟨x, hx, hx2⟩
 exact fun {W} h1 h2 => key W _ h1 (.inr h2)
theorem cell_sync {d : Disk} (hd : diskOk d = true) {s : Int} {r : List Int} (hs : 0 ≤ s) (h : ∀ x ∈ d.wait, x.1 = s → x.2 = r) (h2 : ∃ x ∈ d.wait, x.1 = s) : cell (fallF d [] true) s = r := by
 have h1 := sync_at hd hs d.wait.length (Nat.le_refl _)
 rw [List.take_length, lastW_all h h2] at h1
 rw [fall_yes hd]
 exact h1
theorem wrote_yes2 {d : Disk} {s : Int} {row : List Int} (hd : diskOk d = true) (hs : 0 ≤ s ∧ s < d.kept.length) (hr : rowOk row = true) (hw : d.wait.length < 60) : wroteF d s row = (⟨d.kept, d.wait ++ [(s, row)]⟩, true) := by
 refine wrote_yes hd ?_
 unfold wroteOk
 rw [hasAt_iff.2 hs, hr]
 simpa using hw
theorem both_yes2 {t : Two} {s : Int} {row : List Int} (ht : twoOk t = true) (hs : 0 ≤ s ∧ s < t.a.kept.length) (hr : canSum row = true) (hwa : t.a.wait.length < 60) (hwb : t.b.wait.length < 60) : bothWroteF t s row = (⟨⟨t.a.kept, t.a.wait ++ [(s, withSumF row)]⟩, ⟨t.b.kept, t.b.wait ++ [(s, withSumF row)]⟩⟩, true) := by
 obtain ⟨h1, h2, h3⟩ := twoOk_iff.1 ht
 unfold bothWroteF
 rw [ht, hr, wrote_yes2 h1 hs (ws_ok hr) hwa, wrote_yes2 h2 om (ws_ok hr) hwb]
 rfl
theorem mem_set' {α : Type} {l : List α} {k : Nat} {x y : α} (h : y ∈ l.set k x) : y ∈ l ∨ y = x := List.mem_or_eq_of_mem_set h
theorem mended_rest {t : Two} {s : Int} {row : List Int} (h : Rest t) (hs : 0 ≤ s ∧ s < 22) (hr : canSum row = true) : mendedF t s row = ⟨⟨t.a.kept.set s.toNat (withSumF row), []⟩, ⟨t.b.kept.set s.toNat (withSumF row), []⟩⟩ ∧ Rest ⟨⟨t.a.kept.set s.toNat (withSumF row), []⟩, ⟨t.b.kept.set s.toNat (withSumF row), []⟩⟩ := by
 obtain ⟨h1, h2, h3, h4, h5⟩ := h.parts
 have hb := both_yes2 (s := s) h1 om hr (by rw [h.wa]; simp) (by rw [h.wb]; simp)
 have hok := both_ok (x := s) (row := row) h1
 rw [h.wa, h.wb, List.nil_append] at hb
 rw [hb] at hok
 have k1 := twoOk_both hok
 have e : mendedF t s row = ⟨⟨t.a.kept.set s.toNat (withSumF row), []⟩, ⟨t.b.kept.set s.toNat (withSumF row), []⟩⟩ := by
  unfold mendedF
  rw [hb]
  simp only [if_true]
  rw [bsync_yes hok, fall_yes k1.1, fall_yes k1.2]
  simp [fallUp, fallStep]
 refine ⟨e, ?_, rfl, rfl⟩
 have hrow : ∀ (K : List (List Int)), (∀ r ∈ K, rowOk r = true) → ∀ r ∈ K.set s.toNat (withSumF row), rowOk r = true := fun K hK r hr2 => by
  rcases mem_set' hr2 with h9 | h9
  ·exact hK r h9
  ·rw [h9]; exact ws_ok hr
 refine keptOk_iff.2 ⟨twoOk_iff.2 ⟨diskOk_rest (by simp; omega) (by simp; omega) (hrow _ (diskOk_sizes h2).2.2.2.1), diskOk_rest (by simp; omega) (by simp; omega) (hrow _ (diskOk_sizes h3).2.2.2.1), by simp; omega⟩, by simpa using h4⟩
theorem slot_ne {i j : Int} (h : i ≠ j) (h1 : i - j < 20) (h2 : j - i < 20) : slotF i ≠ slotF j := by unfold slotF; omega
section
variable {h : Head} {time : Int} {es : List Entry}
end
structure Ask where
 client : Int
 seq : Int
 kind : Int
 a : Int
 b : Int
 c : Int
 d : Int
@[reducible] def askC (a : Ask) : List C := [iC a.client, iC a.seq, iC a.kind, iC a.a, iC a.b, iC a.c, iC a.d]
def askOkF (a : Ask) : Bool := askerOk a.client && (seqOk a.seq && opOk a.kind a.a a.b a.c a.d)
def entA (n : LogN) (a : Ask) (now : Int) : Entry := ⟨lastB n.book + 1, max now (timeB n.book), a.client, a.seq, a.kind, a.a, a.b, a.c, a.d⟩
def keptEntryF (t : Two) (e : Entry) : Two × Bool := if keptOk t then if entryOk e then bothWroteF t (slotF e.index) (slotRowF e) else (t, false) else (zeroT, false)
theorem ke_yes {t : Two} {e : Entry} (h : keptOk t = true) (he : entryOk e = true) : keptEntryF t e = bothWroteF t (slotF e.index) (slotRowF e) := by simp [keptEntryF, h, he]
theorem slotRow_ne {e : Entry} (h : entryOk e = true) : slotRowF e ≠ [] := by
 rw [slotRow_yes h]
 simp [Entry.nums]
def withE (n : LogN) (e : Entry) : LogN := ⟨(keptEntryF n.two e).1, n.head, n.next, n.more, appF n.book e, (markedF n.seen e).1, n.durable, n.owe ++ [ackF e]⟩
def takesA (n : LogN) (e : Entry) : Bool := fitsF n.book e && (keptEntryF n.two e).2
def freshLogF (n : LogN) (a : Ask) (now : Int) : LogN := if takesA n (entA n a now) then withE n (entA n a now) else n
theorem book_time {b : Book} (hb : bookOk b = true) : timeOk (timeB b) = true := by
 have hbd := book_bd hb
 cases hl : b.entries.length with
 | zero => rw [timeB_nil hl]; exact hbd.2.2.2.1
 | succ m =>
  rw [timeB_last hl]
  have := ents_ok hbd.2.2.2.2 _ (List.getElem_mem (show m < b.entries.length by omega))
  simp only [entryOk, Bool.and_eq_true] at this
  exact this.2.1
theorem entA_ok {n : LogN} {a : Ask} {now : Int} (hb : bookOk n.book = true) (ha : askOkF a = true) (hn : timeOk now = true) (h : lastB n.book < 2000) : entryOk (entA n a now) = true := by
 simp only [askOkF, Bool.and_eq_true] at ha
 have h1 := book_last hb
 have h2 := inB_iff.1 (book_time hb)
 have h3 := inB_iff.1 hn
 have h4 : timeOk (max now (timeB n.book)) = true := inB_iff.2 ⟨by omega, by omega⟩
 have h5 : indexOk (lastB n.book + 1) = true := inB_iff.2 ⟨by omega, by omega⟩
 simp only [entA, entryOk, h4, h5, ha.1, ha.2.1, ha.2.2, Bool.and_self]
theorem entA_fits {n : LogN} {a : Ask} {now : Int} (hb : bookOk n.book = true) (ha : askOkF a = true) (hn : timeOk now = true) (h : lastB n.book < 2000) (h2 : n.book.entries.length < 20) : fitsF n.book (entA n a now) = true :=
 fits_iff.2 ⟨entA_ok hb ha hn h, rfl, by show max now (timeB n.book) ≥ timeB n.book; omega, h2⟩
theorem book_last2 {b : Book} (hb : bookOk b = true) : lastB b ≤ 2000 := by
 cases hl : b.entries.length with
 | zero => have := book_bd hb; unfold lastB; omega
 | succ m =>
  have hm : m < b.entries.length := by omega
  have h1 := ent_ix hb m hm
  have h2 := entry_ix (ents_ok (book_bd hb).2.2.2.2 _ (List.getElem_mem hm))
  unfold lastB
  omega
def askedF (n : LogN) (a : Ask) (now : Int) : LogN × List Ack :=
 if logOkF n then
  if askOkF a && timeOk now then
   if (findM n.seen a.client).seq < a.seq then (freshLogF n a now, [])
   else if a.seq < (findM n.seen a.client).seq then (n, [⟨a.client, a.seq, 0, (findM n.seen a.client).seq⟩])
   else if n.durable < (findM n.seen a.client).index then (n, []) else (n, [⟨a.client, a.seq, (findM n.seen a.client).index, (findM n.seen a.client).seq⟩])
  else (n, [])
 else (zeroL, [])
section
variable {n : LogN} {a : Ask} {now : Int}
theorem ak_no (h : logOkF n = false) : askedF n a now = (zeroL, []) := by simp [askedF, h]
theorem ak_bad1 (h : logOkF n = true) (h2 : askOkF a = false) : askedF n a now = (n, []) := by simp [askedF, h, h2]
theorem ak_bad2 (h : logOkF n = true) (h2 : timeOk now = false) : askedF n a now = (n, []) := by simp [askedF, h, h2]
theorem ak_fresh (h : logOkF n = true) (h2 : askOkF a = true) (h3 : timeOk now = true) (h4 : a.seq > (findM n.seen a.client).seq) : askedF n a now = (freshLogF n a now, []) := by
 have h5 : (findM n.seen a.client).seq < a.seq := h4
 simp [askedF, h, h2, h3, h5]
theorem ak_old (h : logOkF n = true) (h2 : askOkF a = true) (h3 : timeOk now = true) (h4 : a.seq < (findM n.seen a.client).seq) : askedF n a now = (n, [⟨a.client, a.seq, 0, (findM n.seen a.client).seq⟩]) := by
 have h5 : ¬ (findM n.seen a.client).seq < a.seq := by omega
 simp [askedF, h, h2, h3, h5, h4]
theorem ak_wait (h : logOkF n = true) (h2 : askOkF a = true) (h3 : timeOk now = true) (h4 : a.seq = (findM n.seen a.client).seq) (h6 : (findM n.seen a.client).index > n.durable) : askedF n a now = (n, []) := by
 have h5 : n.durable < (findM n.seen a.client).index := h6
 simp [askedF, h, h2, h3, h4, h5]
theorem ak_told (h : logOkF n = true) (h2 : askOkF a = true) (h3 : timeOk now = true) (h4 : a.seq = (findM n.seen a.client).seq) (h6 : ¬ (findM n.seen a.client).index > n.durable) : askedF n a now = (n, [⟨a.client, a.seq, (findM n.seen a.client).index, (findM n.seen a.client).seq⟩]) := by
 have h5 : ¬ n.durable < (findM n.seen a.client).index := h6
 simp [askedF, h, h2, h3, h4, h5]
end
theorem ak_le {n : LogN} {a : Ask} (h1 : ¬ a.seq > (findM n.seen a.client).seq) (h2 : ¬ a.seq < (findM n.seen a.client).seq) : a.seq = (findM n.seen a.client).seq := by omega
theorem ak_lt {n : LogN} {a : Ask} (h1 : ¬ a.seq > (findM n.seen a.client).seq) (h2 : a.seq ≠ (findM n.seen a.client).seq) : a.seq < (findM n.seen a.client).seq := by omega
theorem c_AskOk' (a : Ask) : Pure Tryz.prog 63 [many (askC a)] (bR (askOkF a)) := by
 refine pure_intro (N := 16) Tryz.func63 rfl rfl rfl rfl (fun H w => ?_)
 refine sq (rg (evl_e (e_box rfl rfl rfl rfl) (xs rfl rfl (nl (et (sq (rg (xf ttOk rfl rfl (xl ttOk rfl rfl (evl_call (nm := 5) (cf rfl) (c_AskerOk' _) (rs_of rfl) rfl rfl rfl (xm rfl rfl (evl_part rfl rfl (fun h1 => ?_) (fun h1 => ?_)))))))))))))
 ·refine go h1 rfl rfl (q_fieldAddr ttOk rfl) rfl (go h1 rfl rfl (q_load ttOk rfl) rfl (evl_callg rfl rfl h1 (nm := 9) (cf rfl) (c_seqOk' _) (rs_of rfl) rfl rfl rfl (xo (q_pick_t rfl h1 rfl) rfl (xm rfl rfl (evl_part rfl rfl (fun h2 => ?_) (fun h2 => ?_))))))
  ·refine go h2 rfl rfl (q_fieldAddr ttOk rfl) rfl (go h2 rfl rfl (q_load ttOk rfl) rfl (evl_callg rfl rfl h2 (nm := 14) (cf rfl) (c_OpOk' _ _ _ _ _) (rs_of rfl) rfl rfl rfl (xo (q_pick_t rfl h2 rfl) rfl (xs rfl rfl (nl (et (ev_ret (ret_pure' ttOk rfl rfl (congrArg bR (?_ : _ = _))))))))))
   simp_all [askOkF]
  ·refine gn h2 rfl rfl rfl (gn h2 rfl rfl rfl (gn h2 rfl rfl rfl (xo (q_pick_f rfl h2 rfl) rfl (xs rfl rfl (nl (et (ev_ret (ret_pure' ttOk rfl rfl (congrArg bR (?_ : _ = _))))))))))
   simp_all [askOkF]
 ·refine gn h1 rfl rfl rfl (gn h1 rfl rfl rfl (gn h1 rfl rfl rfl (xo (q_pick_f rfl h1 rfl) rfl (xm rfl rfl (gn rfl rfl rfl rfl (gn rfl rfl rfl rfl (gn rfl rfl rfl rfl (xo (q_pick_f rfl rfl rfl) rfl (xs rfl rfl (nl (et (ev_ret (ret_pure' ttOk rfl rfl (congrArg bR (?_ : _ = _)))))))))))))))
  simp_all [askOkF]
theorem c_SlotOf' (x : Int) (h : indexOk x = true) : Pure Tryz.prog 210 [one (iC x)] (iR (slotF x)) := by
 refine pure_intro (N := 8) Tryz.func210 rfl rfl rfl rfl (fun H w => ?_)
 have hx := inB_iff.1 h
 refine sq (rg (xs rfl rfl (nl (et (sq (sq (rg (xm rfl rfl (evl_call (nm := 4) (cf rfl) (c_indexOk' _) (rs_of rfl) rfl rfl rfl (xo (q_not rfl) rfl (nl (et (ev_cond_n rfl (fun h1 => ?_) (fun h1 => ?_))))))))))))))
 ·refine sq (rg (xs rfl rfl (nl (et (ev_ret (evr_then (ret_pure' ttOk rfl rfl ?_)))))))
  first
  | rfl
  | (exfalso; simp_all; done)
 ·refine ev_skip (et (sq (rg (xm rfl rfl (evl_call (nm := 7) (cf rfl) (c_slotOf x om) (rs_of rfl) rfl rfl rfl (xs rfl rfl (nl (et (ev_ret (ret_pure' ttOk rfl rfl ?_))))))))))
  first
  | rfl
  | (exfalso; simp_all; done)
theorem c_KeptEntry' (t : Two) (e : Entry) (he : entryOk e = true) : Pure Tryz.prog 148 [many (twoC t), many (entryC e)] [many' (twoR ((keptEntryF t e).1)), one' (RC.v (.bool ((keptEntryF t e).2)))] := by
 refine pure_intro (N := 15) Tryz.func148 rfl rfl rfl rfl (fun H w => ?_)
 have hix := entry_ix he
 refine sq (rg (evl_e (e_box rfl rfl rfl rfl) (evl_e (e_box rfl rfl rfl rfl) (evl_e (e_alloc ttOk rfl rfl rfl rfl) (xs rfl rfl (nl (et (sq (ev_drawq [9] mo (rk0 0 rfl (q_load ttOk rfl) rfl (rk0 1 rfl (q_fieldAddr ttOk rfl) rfl (rk0 2 rfl (q_load ttOk rfl) rfl (rk0 4 rfl (q_load ttOk rfl) rfl (rdk_one 3 kr (rdo_call (nm := 9) rfl trivial (cf rfl) (c_SlotOf' e.index (inB_iff.2 hix)) (rs_of rfl) rfl rfl rfl (rdk_one 5 kr (rdo_call (nm := 11) rfl trivial (cf rfl) (c_SlotRow' e he) (rs_of rfl) rfl rfl rfl (rdk_one 6 kr (rdo_call (nm := 12) rfl trivial (cf rfl) (c_keptRow t (slotF e.index) (slotRowF e) (slotRow_ne he)) (rs_of rfl) rfl rfl rfl (rk0 7 rfl (q_ext rfl) rfl (rk0 8 rfl (q_ext rfl) rfl (rdk_one 9 kr (rdo_brk rfl rfl trivial (e_store ttOk rfl) (rdb_q 10 rfl kr trivial (q_assign rfl) rfl (rdb_endq kr (et (ev_ret (ret_pureN ttOk rfl rfl ?_))))))))))))))))))))))))))))
 rw [show keptEntryF t e = keptRowF t (slotF e.index) (slotRowF e) by simp only [keptEntryF, keptRowF]; rw [he]; rfl]; simp [RpLe, L2, RcLe]
theorem as_nil (t : Value) (w : World) : Calls Tryz.prog 67 #[.nilIface, t] w fun e w' => e = .returned (.bool false) ∧ w' = w := by
 go_enter Tryz.func67, Tryz.ntmps67
 go_wp2
 go_ret
 exact ⟨rfl, rfl⟩
theorem c_recorded (n : LogN) (a : Ask) (now : Int) (h : logOkF n = true) (hok : takesA n (entA n a now) = true) : Takes Tryz.prog 66 (true, logR n) [many (askC a), one (iC now)] [many' (logR (withE n (entA n a now))), one' (RC.v .nilIface)] := by
 obtain ⟨hk, hh, hb, he1, he2⟩ := log_all h
 have hsm := log_small h
 have hbd := book_bd hb
 have hbl := book_last hb
 have hbl2 := book_last2 hb
 have hbq : lastB n.book = n.book.base + n.book.entries.length := rfl
 simp only [takesA, Bool.and_eq_true] at hok
 obtain ⟨hfit, hkep⟩ := hok
 have hent := (fits_iff.1 hfit).1
 refine takes_intro (N := 79) Tryz.func66 rfl rfl rfl rfl rfl rfl (fun H w F => ?_)
 refine sq (rg (evl_e (e_box rfl rfl rfl rfl) (evl_e (e_box rfl rfl rfl rfl) (evl_e (e_alloc ttOk rfl rfl rfl rfl) (xs rfl rfl (nl (et (sq ?_))))))))
 refine' ev_draw [17] mo ?hdr1 ?kdr1
 case hdr1 =>
  refine rk0 0 rfl (q_fieldAddr ttOk rfl) rfl (rk0 1 rfl (q_load ttOk rfl) rfl (rk0 4 rfl (q_move rfl) rfl (rk0 5 rfl (q_fieldAddr ttOk rfl) rfl (rk0 6 rfl (q_load ttOk rfl) rfl (rk0 9 rfl (q_fieldAddr ttOk rfl) rfl (rk0 10 rfl (q_load ttOk rfl) rfl (rk0 11 rfl (q_fieldAddr ttOk rfl) rfl (rk0 12 rfl (q_load ttOk rfl) rfl (rk0 13 rfl (q_fieldAddr ttOk rfl) rfl (rk0 14 rfl (q_load ttOk rfl) rfl (rdk_two 2 16 kr ?_ ?_)))))))))))
  ·refine rdo_call (nm := 13) rfl trivial (cf rfl) (c_lastOf n.book hb) (rs_of rfl) rfl rfl rfl (rk0 3 rfl (q_ar rfl rfl rfl om) rfl (rdk_two 7 16 kr ?_ ?_))
   ·refine rdo_call (nm := 18) rfl trivial (cf rfl) (c_timeOf n.book hb) (rs_of rfl) rfl rfl rfl (rk0 8 rfl (q_max rfl rfl) rfl (rk0 15 rfl (q_build ttOk rfl) rfl (rdk_one 16 kr (rdo_new rfl trivial (e_alloc ttOk rfl rfl rfl rfl) (rdk_one 17 kr (rdo_brk rfl rfl trivial (e_store ttOk rfl) ?_))))))
    exact rdb_fin kr
   ·refine rdo_new rfl trivial (e_alloc ttOk rfl rfl rfl rfl) (rdk_one 7 kr (rdo_call (nm := 18) rfl trivial (cf rfl) (c_timeOf n.book hb) (rs_of rfl) rfl rfl rfl (rk0 8 rfl (q_max rfl rfl) rfl (rk0 15 rfl (q_build ttOk rfl) rfl (rdk_one 17 kr (rdo_brk rfl rfl trivial (e_store ttOk rfl) ?_))))))
    exact rdb_le [] kr lei
  ·refine rdo_new rfl trivial (e_alloc ttOk rfl rfl rfl rfl) (rdk_one 2 kr (rdo_call (nm := 13) rfl trivial (cf rfl) (c_lastOf n.book hb) (rs_of rfl) rfl rfl rfl (rk0 3 rfl (q_ar rfl rfl rfl om) rfl (rdk_one 7 kr (rdo_call (nm := 18) rfl trivial (cf rfl) (c_timeOf n.book hb) (rs_of rfl) rfl rfl rfl (rk0 8 rfl (q_max rfl rfl) rfl (rk0 15 rfl (q_build ttOk rfl) rfl (rdk_one 17 kr (rdo_brk rfl rfl trivial (e_store ttOk rfl) ?_)))))))))
   exact rdb_le [] kr lei
 refine et (sq (sq (rg (xf ttOk rfl rfl (xl ttOk rfl rfl (xl ttOk rfl rfl (evl_call (nm := 30) (cf rfl) (c_fits n.book (entA n a now) hb) (rs_of rfl) rfl rfl rfl (xo (q_not rfl) rfl (nl (et (ev_cond_n rfl (fun h1 => ?_) (fun h1 => ?_))))))))))))
 ·exact absurd (hfit.symm.trans h1) (by decide)
 ·refine ev_skip (et (sq (rg (xf ttOk rfl rfl (xl ttOk rfl rfl (xl ttOk rfl rfl (evl_call (nm := 42) (cf rfl) (c_KeptEntry' n.two (entA n a now) hent) (rs_of rfl) rfl rfl rfl (xm rfl rfl (xo (q_ext rfl) rfl (xo (q_ext rfl) rfl (evl_e (e_alloc ttOk rfl rfl rfl rfl) (xst ttOk rfl rfl (xs rfl rfl (nl (et (sq (sq (rg (xm rfl rfl (xo (q_not rfl) rfl (nl (et (ev_cond_n rfl (fun h2 => ?_) (fun h2 => ?_))))))))))))))))))))))))
  ·exact absurd (hkep.symm.trans h2) (by decide)
  ·refine ev_skip (et (sq (rg (xl ttOk rfl rfl (xf ttOk rfl rfl (xst ttOk rfl rfl (nl (et (sq (rg (xf ttOk rfl rfl (xf ttOk rfl rfl (xl ttOk rfl rfl (xl ttOk rfl rfl (evl_e (e_lit ttOk rfl rfl rfl) (evl_e (e_app ttOk rfl rfl rfl rfl rfl rfl rfl (by simp; omega) rfl rfl) (xf ttOk rfl rfl (xf ttOk rfl rfl (xst ttOk rfl rfl (nl (et (sq (rg (xf ttOk rfl rfl (xl ttOk rfl rfl (xl ttOk rfl rfl (evl_call (nm := 67) (cf rfl) (c_Marked' n.seen (entA n a now)) (rs_of rfl) rfl rfl rfl (xm rfl rfl (xo (q_ext rfl) rfl (xo (q_ext rfl) rfl (xf ttOk rfl rfl (xst ttOk rfl rfl (nl (et (sq (ev_drawq [5, 7] mo (rk0 0 rfl (q_fieldAddr ttOk rfl) rfl (rk0 1 rfl (q_load ttOk rfl) rfl (rk0 2 rfl (q_load ttOk rfl) rfl (rdk_one 3 kr (rdo_call (nm := 74) rfl trivial (cf rfl) (c_AckOf' (entA n a now)) (rs_of rfl) rfl rfl rfl (rdk_one 4 kr (rdo_new rfl trivial (e_lit ttOk rfl rfl rfl) (rdk_one 5 kr (rdo_brk rfl rfl trivial (e_app ttOk rfl rfl rfl rfl rfl rfl rfl (by simp; omega) rfl rfl) (rdb_q 6 rfl kr trivial (q_fieldAddr ttOk rfl) rfl (rdb_eff 7 rfl kr trivial (e_store ttOk rfl) (rdb_endq kr (et (sq ?_))))))))))))))))))))))))))))))))))))))))))))))))))
   refine rg (xl ttOk rfl rfl (xst ttOk rfl rfl (xs rfl rfl (nl (et (ev_ret (ret_take ttOk rfl rfl ?_)))))))
   simp [RpLe, L2, RcLe, withE, appF, entA]
theorem eqHd_refl {h : Head} : eqHd h h = true := by simp [eqHd, eqN]
theorem log_mk {n : LogN} (h1 : keptOk n.two = true) (h2 : headOk n.head = true) (h3 : bookOk n.book = true) (h4 : n.book.base = n.head.base) (h5 : n.book.time = n.head.time) (h6 : overL n.head.seen n.book.entries = some n.seen) (h7 : n.book.base ≤ n.durable ∧ n.durable ≤ lastB n.book)
  (h8 : n.owe = (partF n.book (n.durable + 1) 2000).map ackF) (h9 : if n.more then n.head.base + 1 ≤ n.next.base ∧ n.next.base ≤ n.durable ∧ n.next = nextF n n.next.base else n.next = noHead) : logOkF n = true := by
 have hs := (head_bd h2).2.2.2.2
 have e := so4 hs (by have := book_bd h3; omega) h6
 simp only [logOkF, frontF, midF, owesF, Bool.and_eq_true, decide_eq_true_eq]
 refine ⟨⟨h1, h2, h3, h4, h5⟩, ⟨by rw [e], by rw [e]; exact eqN_refl, inB_iff.2 h7⟩, by rw [← h8]; exact eqN_refl, ?_⟩
 cases hm : n.more with
 | false =>
  rw [hm] at h9
  simp only [Bool.false_eq_true, if_false] at h9 ⊢
  rw [h9]; exact eqHd_refl
 | true =>
  rw [hm] at h9
  simp only [if_true] at h9 ⊢
  rw [Bool.and_eq_true]
  refine ⟨inB_iff.2 ⟨h9.1, h9.2.1⟩, ?_⟩
  rw [← h9.2.2]; exact eqHd_refl
theorem log_dur {n : LogN} (h : logOkF n = true) : n.book.base ≤ n.durable ∧ n.durable ≤ lastB n.book := inB_iff.1 (log_facts h).2
theorem overL_append : ∀ {es fs : List Entry} {l : List Mark}, overL l (es ++ fs) = (overL l es).bind fun c => overL c fs
 | [], fs, l => rfl
 | e :: es, fs, l => by
  simp only [List.cons_append, overL]
  split
  ·exact overL_append
  ·rfl
theorem ents_drop {l : List Entry} (h : entriesOk l = true) (k : Nat) : entriesOk (l.drop k) = true := by
 obtain ⟨h1, h2⟩ := entriesOk_iff.1 h
 refine entriesOk_iff.2 ⟨by rw [List.length_drop]; omega, fun q hq => ?_⟩
 have hql : k + q < l.length := by rw [List.length_drop] at hq; omega
 have h3 := h2 (k + q) hql
 rw [entStep_at hql] at h3
 rw [entStep_at hq]
 have e1 : (l.drop k)[q] = l[k + q] := by simp
 rw [e1]
 simp only [Bool.and_eq_true] at h3 ⊢
 refine ⟨h3.1, ?_⟩
 cases q with
 | zero => rfl
 | succ j =>
  have h4 : entOver l ((k + j) + 1) (l[k + (j + 1)]'hql) = true := h3.2
  have hj : k + j < l.length := by omega
  simp only [entOver, List.getElem?_drop, List.getElem?_eq_getElem hj] at h4 ⊢
  exact h4
theorem time_at {b : Book} {x : Int} (h1 : b.base < x) (h2 : x ≤ lastB b) : ∃ m, ∃ hm : m < b.entries.length, x = b.base + 1 + m ∧ timeAtF b x = b.entries[m].time := by
 obtain ⟨m, hm1, hm2⟩ := at_get h1 h2
 refine ⟨m, hm2, by omega, ?_⟩
 unfold timeAtF
 rw [if_neg om, atB_eq hm1 hm2]
theorem book_drop {b : Book} (hb : bookOk b = true) {x : Int} (h1 : b.base ≤ x) (h2 : x ≤ lastB b) : bookOk ⟨x, timeAtF b x, b.entries.drop (x - b.base).toNat⟩ = true := by
 have hbd := book_bd hb
 have h9 := hb
 simp only [bookOk, Bool.and_eq_true, decide_eq_true_eq] at h9
 have hl2 := book_last2 hb
 by_cases e : x = b.base
 ·subst e
  have : timeAtF b b.base = b.time := by simp [timeAtF]
  rw [this, Int.sub_self]
  exact hb
 ·obtain ⟨m, hm, hx, ht⟩ := time_at (b := b) (x := x) om h2
  have hk : (x - b.base).toNat = m + 1 := by omega
  have hem := ents_ok hbd.2.2.2.2 _ (List.getElem_mem hm)
  have htm : timeOk b.entries[m].time = true := by
   simp only [entryOk, Bool.and_eq_true] at hem
   exact hem.2.1
  rw [hk, ht]
  simp only [bookOk, Bool.and_eq_true, decide_eq_true_eq]
  refine ⟨inB_iff.2 ⟨by omega, by omega⟩, htm, ?_, by rw [List.length_drop]; omega, ents_drop hbd.2.2.2.2 _, ?_⟩
  ·have : ¬ x = 0 := by omega
   simp [this]
  ·cases hl : b.entries.drop (m + 1) with
   | nil => rfl
   | cons a l =>
    have hlen : m + 1 < b.entries.length := by
     have := congrArg List.length hl
     simp only [List.length_drop, List.length_cons] at this
     omega
    rw [List.drop_eq_getElem_cons hlen] at hl
    cases hl
    have hst := (entriesOk_iff.1 hbd.2.2.2.2).2 (m + 1) hlen
    rw [entStep_at hlen, entOver_at hlen om] at hst
    simp only [Bool.and_eq_true, decide_eq_true_eq] at hst
    have hix := ent_ix hb (m + 1) hlen
    simp only [Bool.and_eq_true, decide_eq_true_eq]
    exact ⟨by omega, by simpa using hst.2.2⟩
theorem part_none {b : Book} (hb : bookOk b = true) : partF b (lastB b + 1) 2000 = [] := by
 unfold partF
 refine List.filter_eq_nil_iff.2 fun e he => ?_
 obtain ⟨j, hj, rfl⟩ := List.mem_iff_getElem.1 he
 have := ent_ix hb j hj
 unfold lastB
 simp only [inB, Bool.and_eq_true, decide_eq_true_eq]
 omega
theorem log_bases {n : LogN} (h : logOkF n = true) : n.book.base = n.head.base ∧ n.book.time = n.head.time := ⟨(log_all h).2.2.2.1, (log_all h).2.2.2.2⟩
theorem next_over {n : LogN} (h : logOkF n = true) {x : Int} (h1 : n.book.base ≤ x) (h2 : x ≤ lastB n.book) : overL n.head.seen (n.book.entries.take (x - n.book.base).toNat) = some (nextF n x).seen ∧ overL (nextF n x).seen (n.book.entries.drop (x - n.book.base).toNat) = some n.seen := by
 obtain ⟨hk, hh, hb, he, ht⟩ := log_all h
 obtain ⟨h3, h4, h5⟩ := log_seen h
 have hs := (head_bd hh).2.2.2.2
 have hbd := book_bd hb
 obtain ⟨c, hc⟩ := over_prefix h3 (x - n.book.base).toNat
 have e : (nextF n x).seen = c := by
  unfold nextF
  simp only
  rw [part_take hb, so4 hs (by rw [List.length_take]; omega) hc]
 rw [e]
 refine ⟨hc, ?_⟩
 have h6 := h3
 rw [← List.take_append_drop (x - n.book.base).toNat n.book.entries, overL_append, hc] at h6
 exact h6
theorem sync_ok {n : LogN} (h : logOkF n = true) : logOkF (syncedF n).1 = true := by
 obtain ⟨hk, hh, hb, he, ht⟩ := log_all h
 have hd := log_dur h
 cases hm : n.more
 ·rw [sy_less h hm]
  refine log_mk (by rw [kept_sync]; exact hk) hh hb he ht (log_seen h).1 ⟨by unfold lastB; simp only; omega, Int.le_refl _⟩ ?_ ?_
  ·simp only; rw [part_none hb]; rfl
  ·simp only [hm]; exact log_less h hm
 ·obtain ⟨h1, h2, h3, h4⟩ := log_next h hm
  rw [sy_more h hm]
  have hx1 : n.book.base ≤ n.next.base := by omega
  have hx2 : n.next.base ≤ lastB n.book := by omega
  have hbo := book_drop hb hx1 hx2
  have hov := (next_over h hx1 hx2).2
  rw [← h4] at hov
  have hnt : timeAtF n.book n.next.base = n.next.time := (congrArg Head.time h4).symm
  have hlast : lastB ⟨n.next.base, timeAtF n.book n.next.base, n.book.entries.drop (n.next.base - n.book.base).toNat⟩ = lastB n.book := by
   unfold lastB at hx2 ⊢
   simp only [List.length_drop]
   omega
  have htr := tr_yes hb (inB_iff.2 ⟨hx1, hx2⟩)
  rw [htr]
  refine log_mk (by rw [kept_sync]; exact hk) h1 hbo rfl hnt hov ⟨by unfold lastB at hx2 ⊢; simp only; omega, by rw [hlast]; exact Int.le_refl _⟩ ?_ ?_
  ·simp only
   have := part_none hbo
   rw [hlast] at this
   rw [this]; rfl
  ·simp only [Bool.false_eq_true, if_false]
theorem part_app {b : Book} {e : Entry} {x y : Int} (h : y < e.index) : partF (appF b e) x y = partF b x y := by
 unfold partF appF
 simp only [List.filter_append]
 have : ([e] : List Entry).filter (fun e => inB e.index x y) = [] := by
  refine List.filter_eq_nil_iff.2 fun z hz => ?_
  rw [List.mem_singleton.1 hz]
  simp only [inB, Bool.and_eq_true, decide_eq_true_eq]
  omega
 rw [this, List.append_nil]
theorem time_app {b : Book} {e : Entry} {x : Int} (h1 : b.base ≤ x) (h2 : x ≤ lastB b) : timeAtF (appF b e) x = timeAtF b x := by
 by_cases e1 : x = b.base
 ·subst e1; simp [timeAtF, appF]
 ·obtain ⟨m, hm1, hm2⟩ := at_get (b := b) (x := x) om h2
  unfold timeAtF
  rw [if_neg (by simpa [appF] using e1), if_neg e1, atB_eq hm1 hm2, atB_eq (b := appF b e) (m := m) hm1 (by simp [appF]; omega)]
  simp [appF, List.getElem_append, hm2]
theorem next_app {n : LogN} {e : Entry} {x : Int} (h1 : n.book.base ≤ x) (h2 : x ≤ lastB n.book) (he : e.index = lastB n.book + 1) : nextF (withE n e) x = nextF n x := by
 unfold nextF withE
 simp only
 rw [time_app h1 h2, part_app om]
 rfl
theorem part_app2 {b : Book} {e : Entry} {x : Int} (h1 : x ≤ e.index) (h2 : e.index ≤ 2000) : partF (appF b e) x 2000 = partF b x 2000 ++ [e] := by
 unfold partF appF
 simp only [List.filter_append]
 congr 1
 rw [List.filter_cons_of_pos (by simp only [inB, Bool.and_eq_true, decide_eq_true_eq]; omega)]
 rfl
theorem fresh_of {n : LogN} {e : Entry} (h : logOkF n = true) (h1 : entryOk e = true) (h2 : (findM n.seen e.client).seq < e.seq) (h3 : e.index = lastB n.book + 1) : freshF n.seen e = true := by
 obtain ⟨hk, hh, hb, he, ht⟩ := log_all h
 obtain ⟨h4, h5, h6⟩ := log_seen h
 have hl : lastF n.seen = lastB n.book := by
  cases hl : n.book.entries.length with
  | zero =>
   rw [List.eq_nil_of_length_eq_zero hl] at h4
   have h4' : n.head.seen = n.seen := Option.some.inj h4
   have hx : lastF n.head.seen = n.head.base := by
    simp only [headOk, Bool.and_eq_true, decide_eq_true_eq] at hh
    exact hh.2.2.2.2.2
   unfold lastB
   rw [← h4', hx, hl]
   omega
  | succ m =>
   have hm : m < n.book.entries.length := by omega
   have h8 := over_last (c := n.seen) h5 hm (by rw [List.take_of_length_le om]; exact h4)
   have h9 := ent_ix hb m hm
   unfold lastB
   omega
 unfold freshF
 rw [h1]
 simp only [Bool.true_and, Bool.and_eq_true, decide_eq_true_eq]
 omega
theorem ask_ok {n : LogN} {e : Entry} (h : logOkF n = true) (hf : fitsF n.book e = true) (hfr : freshF n.seen e = true) (hk : (keptEntryF n.two e).2 = true) (hk2 : keptOk (keptEntryF n.two e).1 = true) : logOkF (withE n e) = true := by
 obtain ⟨h1, hh, hb, he, ht⟩ := log_all h
 obtain ⟨h4, h5, h6⟩ := log_seen h
 have hd := log_dur h
 have hi := fits_iff.1 hf
 have hix := entry_ix hi.1
 have hl : lastB (appF n.book e) = lastB n.book + 1 := by simp only [lastB, appF, List.length_append, List.length_singleton]; omega
 refine log_mk hk2 hh (app_ok hb hf) he ht ?_ ?_ ?_ ?_
 ·show overL n.head.seen (n.book.entries ++ [e]) = some (markedF n.seen e).1
  rw [overL_snoc, h4]
  simp only [Option.bind_some]
  rw [if_pos hfr, mk_yes (of_sok h6) hfr]
 ·show n.book.base ≤ n.durable ∧ n.durable ≤ lastB (appF n.book e)
  omega
 ·show n.owe ++ [ackF e] = (partF (appF n.book e) (n.durable + 1) 2000).map ackF
  rw [part_app2 om om, List.map_append, ← log_owe h]
  rfl
 ·show if n.more then _ else _
  cases hm : n.more
  ·exact log_less (n := n) h hm
  ·obtain ⟨k1, k2, k3, k4⟩ := log_next h hm
   simp only [if_true]
   refine ⟨?_, k3, ?_⟩
   ·show n.head.base + 1 ≤ n.next.base; omega
   ·rw [next_app (by show n.book.base ≤ n.next.base; omega) (by show n.next.base ≤ lastB n.book; omega) hi.2.1]; exact k4
theorem two_ok {n : LogN} {t : Two} (h : logOkF n = true) (ht : keptOk t = true) : logOkF ⟨t, n.head, n.next, n.more, n.book, n.seen, n.durable, n.owe⟩ = true := by
 obtain ⟨h1, hh, hb, he, htm⟩ := log_all h
 refine log_mk ht hh hb he htm (log_seen (n := n) h).1 (log_dur (n := n) h) (log_owe (n := n) h) ?_
 show if n.more then _ else _
 cases hm : n.more
 ·exact log_less (n := n) h hm
 ·obtain ⟨k1, k2, k3, k4⟩ := log_next h hm
  simp only [if_true]
  exact ⟨by show n.head.base + 1 ≤ n.next.base; omega, k3, k4⟩
def oldL (i : Int) (c : List Int) : Prop := c.length ≤ 1 ∨ ∃ e, entryOk e = true ∧ e.index < i ∧ c = withSumF (slotRowF e)
theorem oldL.s {i : Int} {c : List Int} (h : oldL i c) : oldS i c := by
 rcases h with h | ⟨e, h1, h2, h3⟩
 ·exact .inl h
 ·exact .inr ⟨e, h1, by omega, h3⟩
def entW (e : Entry) : Int × List Int := (slotF e.index, withSumF (slotRowF e))
def headW (h : Head) : Int × List Int := (h.num % 2, withSumF (headRowF h))
structure LogJ (n : LogN) : Prop where
 ok : logOkF n = true
 same : n.two.b = n.two.a
 head : cell n.two.a (n.head.num % 2) = withSumF (headRowF n.head)
 oldh : lowH n.head.num (cell n.two.a (1 - n.head.num % 2))
 ents : ∀ j (hj : j < n.book.entries.length), n.book.entries[j].index ≤ n.durable → cell n.two.a (slotF n.book.entries[j].index) = withSumF (slotRowF n.book.entries[j])
 olds : ∀ i, n.durable < i → i ≤ n.book.base + 20 → oldL i (cell n.two.a (slotF i))
 wait : ∀ x ∈ n.two.a.wait, (∃ j, ∃ hj : j < n.book.entries.length, n.durable < n.book.entries[j].index ∧ x = entW n.book.entries[j]) ∨ (n.more = true ∧ x = headW n.next)
 wE : ∀ j (hj : j < n.book.entries.length), n.durable < n.book.entries[j].index → entW n.book.entries[j] ∈ n.two.a.wait
 wH : n.more = true → headW n.next ∈ n.two.a.wait
 len : (n.two.a.wait.length : Int) ≤ lastB n.book - n.durable + (if n.more then 1 else 0)
section
variable {n : LogN}
theorem LogJ.parts (h : LogJ n) : keptOk n.two = true ∧ headOk n.head = true ∧ bookOk n.book = true ∧ n.book.base = n.head.base ∧ n.book.time = n.head.time ∧ diskOk n.two.a = true ∧ n.two.a.kept.length = 22 := by
 obtain ⟨h1, h2, h3, h4, h5⟩ := log_all h.ok
 obtain ⟨k1, k2⟩ := keptOk_iff.1 h1
 exact ⟨h1, h2, h3, h4, h5, (twoOk_both k1).1, k2⟩
theorem LogJ.ix (h : LogJ n) {j : Nat} (hj : j < n.book.entries.length) : n.book.entries[j].index = n.book.base + 1 + j ∧ j < 20 ∧ entryOk n.book.entries[j] = true := by
 obtain ⟨_, _, hb, _⟩ := h.parts
 have hbd := book_bd hb
 exact ⟨ent_ix hb j hj, by omega, ents_ok hbd.2.2.2.2 _ (List.getElem_mem hj)⟩
theorem LogJ.next (h : LogJ n) (hm : n.more = true) : headOk n.next = true ∧ n.next.num = n.head.num + 1 ∧ n.head.base < n.next.base ∧ n.next.base ≤ n.durable ∧ n.next = nextF n n.next.base := by
 obtain ⟨h1, h2, h3, h4⟩ := log_next h.ok hm
 exact ⟨h1, congrArg Head.num h4, h2, h3, h4⟩
theorem LogJ.w_slot (h : LogJ n) {i : Int} (h1 : n.book.base < i) (h2 : i ≤ n.book.base + 20) {x : Int × List Int} (hx : x ∈ n.two.a.wait) (hs : x.1 = slotF i) : n.durable < i ∧ ∃ j, ∃ hj : j < n.book.entries.length, n.book.entries[j].index = i ∧ x.2 = withSumF (slotRowF n.book.entries[j]) := by
 rcases h.wait x hx with ⟨j, hj, hd, rfl⟩ | ⟨hm, rfl⟩
 ·have hix := h.ix hj
  have e : n.book.entries[j].index = i := by
   have hs : slotF n.book.entries[j].index = slotF i := hs
   rcases Decidable.em (n.book.entries[j].index = i) with h9 | h9
   ·exact h9
   ·exact absurd hs (slot_ne h9 om om)
  exact ⟨by omega, j, hj, e, rfl⟩
 ·have := slot_rng i
  have hs : n.next.num % 2 = slotF i := hs
  omega
theorem LogJ.w_head (h : LogJ n) {p : Int} (hp : p = 0 ∨ p = 1) {x : Int × List Int} (hx : x ∈ n.two.a.wait) (hs : x.1 = p) : n.more = true ∧ p = n.next.num % 2 ∧ x.2 = withSumF (headRowF n.next) := by
 rcases h.wait x hx with ⟨j, hj, hd, rfl⟩ | ⟨hm, rfl⟩
 ·have := slot_rng n.book.entries[j].index
  have hs : slotF n.book.entries[j].index = p := hs
  omega
 ·exact ⟨hm, hs.symm, rfl⟩
theorem LogJ.at (h : LogJ n) {i : Int} (h1 : n.book.base < i) (h2 : i ≤ lastB n.book) : ∃ j, ∃ hj : j < n.book.entries.length, n.book.entries[j].index = i := by
 unfold lastB at h2
 refine ⟨(i - n.book.base - 1).toNat, by omega, ?_⟩
 have := h.ix (j := (i - n.book.base - 1).toNat) om
 omega
theorem LogJ.sync_two (h : LogJ n) : bothSyncF n.two = ⟨fallF n.two.a [] true, fallF n.two.a [] true⟩ := by
 obtain ⟨h1, _⟩ := h.parts
 rw [bsync_yes (keptOk_iff.1 h1).1, h.same]
theorem LogJ.sync_slot (h : LogJ n) {j : Nat} (hj : j < n.book.entries.length) : cell (fallF n.two.a [] true) (slotF n.book.entries[j].index) = withSumF (slotRowF n.book.entries[j]) := by
 obtain ⟨_, _, _, _, _, hd, _⟩ := h.parts
 have hix := h.ix hj
 have hs := slot_rng n.book.entries[j].index
 rcases Int.lt_or_le n.durable n.book.entries[j].index with h1 | h1
 ·refine cell_sync hd om (fun x hx e => ?_) ⟨_, h.wE j hj h1, rfl⟩
  obtain ⟨_, k, hk, e1, e2⟩ := h.w_slot om om hx e
  have hkx := h.ix hk
  obtain rfl : k = j := by omega
  exact e2
 ·rw [cell_miss hd _ _ om fun x hx e => ?_]
  ·exact h.ents j hj h1
  ·have := (h.w_slot om om hx e).1
   omega
theorem LogJ.sync_free (h : LogJ n) {i : Int} (h1 : lastB n.book < i) (h2 : i ≤ n.book.base + 20) : cell (fallF n.two.a [] true) (slotF i) = cell n.two.a (slotF i) := by
 obtain ⟨_, _, _, _, _, hd, _⟩ := h.parts
 have hs := slot_rng i
 refine cell_miss hd _ _ om fun x hx e => ?_
 obtain ⟨_, k, hk, e1, _⟩ := h.w_slot (by unfold lastB at h1; omega) h2 hx e
 have := h.ix hk
 unfold lastB at h1
 omega
theorem LogJ.sync_head (h : LogJ n) {p : Int} (hp : p = 0 ∨ p = 1) (h1 : n.more = true → p ≠ n.next.num % 2) : cell (fallF n.two.a [] true) p = cell n.two.a p := by
 obtain ⟨_, _, _, _, _, hd, _⟩ := h.parts
 refine cell_miss hd _ _ om fun x hx e => ?_
 obtain ⟨k1, k2, _⟩ := h.w_head hp hx e
 exact h1 k1 k2
theorem LogJ.sync_next (h : LogJ n) (hm : n.more = true) : cell (fallF n.two.a [] true) (n.next.num % 2) = withSumF (headRowF n.next) := by
 obtain ⟨_, _, _, _, _, hd, _⟩ := h.parts
 refine cell_sync hd om (fun x hx e => ?_) ⟨_, h.wH hm, rfl⟩
 exact (h.w_head om hx e).2.2
theorem LogJ.num (h : LogJ n) : 0 ≤ n.head.num := by
 obtain ⟨_, hh, _⟩ := h.parts
 exact (head_nums hh).1.1
theorem drop_get {α : Type} {l : List α} {k j : Nat} (hj : j < (l.drop k).length) : (l.drop k)[j] = l[k + j]'(by rw [List.length_drop] at hj; omega) := by simp
theorem LogJ.sync (h : LogJ n) : LogJ (syncedF n).1 := by
 have hso := sync_ok h.ok
 obtain ⟨hk, hh, hb, he, ht, hd, h22⟩ := h.parts
 have hdu := log_dur h.ok
 have hnum := h.num
 cases hm : n.more
 ·rw [sy_less h.ok hm] at hso ⊢
  rw [h.sync_two] at hso ⊢
  refine ⟨hso, rfl, ?_, ?_, fun j hj _ => h.sync_slot hj, fun i h1 h2 => ?_, ?_, fun j hj h1 => ?_, (fun h1 => by rw [hm] at h1; cases h1), ?_⟩
  ·exact (h.sync_head (p := n.head.num % 2) om (by rw [hm]; simp)).trans h.head
  ·have e := h.sync_head (p := 1 - n.head.num % 2) om (by rw [hm]; simp)
   show lowH n.head.num (cell (fallF n.two.a [] true) (1 - n.head.num % 2))
   rw [e]; exact h.oldh
  ·have h1 : lastB n.book < i := h1
   have h2 : i ≤ n.book.base + 20 := h2
   show oldL i (cell (fallF n.two.a [] true) (slotF i))
   rw [h.sync_free h1 h2]
   exact h.olds i om h2
  ·intro x hx
   have hx : x ∈ (fallF n.two.a [] true).wait := hx
   rw [fall_yes hd] at hx
   simp at hx
  ·have hj : j < n.book.entries.length := hj
   have h1 : lastB n.book < n.book.entries[j].index := h1
   have := h.ix hj
   unfold lastB at h1
   omega
  ·show ((fallF n.two.a [] true).wait.length : Int) ≤ lastB n.book - lastB n.book + _
   rw [fall_yes hd, hm]
   simp
 ·obtain ⟨n1, n2, n3, n4, n5⟩ := h.next hm
  have hx1 : n.book.base ≤ n.next.base := by omega
  have hx2 : n.next.base ≤ lastB n.book := by omega
  rw [sy_more h.ok hm] at hso ⊢
  rw [h.sync_two] at hso ⊢
  rw [tr_yes hb (inB_iff.2 ⟨hx1, hx2⟩)] at hso ⊢
  have hk9 : ((n.next.base - n.book.base).toNat : Int) = n.next.base - n.book.base := by omega
  refine ⟨hso, rfl, h.sync_next hm, ?_, fun j hj _ => ?_, fun i h1 h2 => ?_, ?_, fun j hj h1 => ?_, (by intro h1; cases h1), ?_⟩
  ·show lowH n.next.num (cell (fallF n.two.a [] true) (1 - n.next.num % 2))
   have e1 : 1 - n.next.num % 2 = n.head.num % 2 := by omega
   rw [e1, h.sync_head om (fun _ => by omega), h.head]
   exact .inr ⟨n.head, hh, by omega, rfl⟩
  ·have hj : j < (n.book.entries.drop (n.next.base - n.book.base).toNat).length := hj
   show cell (fallF n.two.a [] true) (slotF ((n.book.entries.drop (n.next.base - n.book.base).toNat)[j]).index) = withSumF (slotRowF ((n.book.entries.drop (n.next.base - n.book.base).toNat)[j]))
   rw [drop_get hj]
   exact h.sync_slot _
  ·have h1 : lastB n.book < i := h1
   have h2 : i ≤ n.next.base + 20 := h2
   show oldL i (cell (fallF n.two.a [] true) (slotF i))
   rcases Int.lt_or_le (n.book.base + 20) i with h3 | h3
   ·obtain ⟨j, hj, hjx⟩ := h.at (i := i - 20) om om
    have hs : slotF i = slotF n.book.entries[j].index := by rw [hjx]; unfold slotF; omega
    rw [hs, h.sync_slot hj]
    exact .inr ⟨_, (h.ix hj).2.2, by omega, rfl⟩
   ·rw [h.sync_free h1 h3]
    exact h.olds i om h3
  ·intro x hx
   have hx : x ∈ (fallF n.two.a [] true).wait := hx
   rw [fall_yes hd] at hx
   simp at hx
  ·have hj : j < (n.book.entries.drop (n.next.base - n.book.base).toNat).length := hj
   have h1 : lastB n.book < ((n.book.entries.drop (n.next.base - n.book.base).toNat)[j]).index := h1
   rw [drop_get hj] at h1
   rw [List.length_drop] at hj
   have := h.ix (j := (n.next.base - n.book.base).toNat + j) om
   unfold lastB at h1
   omega
  ·show ((fallF n.two.a [] true).wait.length : Int) ≤ lastB (⟨n.next.base, _, n.book.entries.drop (n.next.base - n.book.base).toNat⟩ : Book) - lastB n.book + _
   rw [fall_yes hd]
   unfold lastB at hx2 ⊢
   simp only [List.length_drop, List.length_nil]
   simp
   omega
theorem LogJ.wrote (h : LogJ n) {s : Int} {row : List Int} (hs : 0 ≤ s ∧ s < 22) (hr : canSum row = true) : bothWroteF n.two s row = (⟨⟨n.two.a.kept, n.two.a.wait ++ [(s, withSumF row)]⟩, ⟨n.two.a.kept, n.two.a.wait ++ [(s, withSumF row)]⟩⟩, true) ∧ keptOk ⟨⟨n.two.a.kept, n.two.a.wait ++ [(s, withSumF row)]⟩, ⟨n.two.a.kept, n.two.a.wait ++ [(s, withSumF row)]⟩⟩ = true := by
 obtain ⟨hk, hh, hb, he, ht, hd, h22⟩ := h.parts
 have hk2 := keptOk_iff.1 hk
 have hdu := log_dur h.ok
 have hbd := book_bd hb
 have hlen := h.len
 have hl : n.two.a.wait.length < 60 := by
  unfold lastB at hlen hdu
  split at hlen <;> omega
 have hb := both_yes2 (s := s) hk2.1 om hr hl (by rw [h.same]; exact hl)
 rw [h.same] at hb
 have hok := both_ok (x := s) (row := row) hk2.1
 rw [hb] at hok
 exact ⟨hb, keptOk_iff.2 ⟨hok, h22⟩⟩
theorem LogJ.ask_two (h : LogJ n) {e : Entry} (he : entryOk e = true) : keptEntryF n.two e = (⟨⟨n.two.a.kept, n.two.a.wait ++ [entW e]⟩, ⟨n.two.a.kept, n.two.a.wait ++ [entW e]⟩⟩, true) ∧ keptOk ⟨⟨n.two.a.kept, n.two.a.wait ++ [entW e]⟩, ⟨n.two.a.kept, n.two.a.wait ++ [entW e]⟩⟩ = true := by
 have hs := slot_rng e.index
 obtain ⟨h1, h2⟩ := h.wrote (s := slotF e.index) om (slot_sum he)
 rw [ke_yes h.parts.1 he]
 exact ⟨h1, h2⟩
theorem LogJ.takes (h : LogJ n) {e : Entry} (hf : fitsF n.book e = true) : takesA n e = true := by
 unfold takesA
 rw [hf, (h.ask_two (fits_iff.1 hf).1).1]
 rfl
theorem LogJ.ask (h : LogJ n) {e : Entry} (hf : fitsF n.book e = true) (hfr : freshF n.seen e = true) : LogJ (withE n e) := by
 obtain ⟨f1, f2, f3, f4⟩ := fits_iff.1 hf
 obtain ⟨k1, k2⟩ := h.ask_two f1
 have hdu := log_dur h.ok
 have hok := ask_ok h.ok hf hfr (by rw [k1]) (by rw [k1]; exact k2)
 have hw : (withE n e).two = ⟨⟨n.two.a.kept, n.two.a.wait ++ [entW e]⟩, ⟨n.two.a.kept, n.two.a.wait ++ [entW e]⟩⟩ := by unfold withE; rw [k1]
 have hes : (withE n e).book.entries = n.book.entries ++ [e] := rfl
 have hget : ∀ j (hj : j < n.book.entries.length), ((withE n e).book.entries)[j]'(by rw [hes]; simp; omega) = n.book.entries[j] := fun j hj => by
  simp only [hes]
  rw [List.getElem_append_left hj]
 have hlast : ((withE n e).book.entries)[n.book.entries.length]'(by rw [hes]; simp) = e := by simp [hes]
 have hcase : ∀ j (hj : j < (withE n e).book.entries.length), (∃ hj2 : j < n.book.entries.length, ((withE n e).book.entries)[j] = n.book.entries[j]) ∨ (j = n.book.entries.length ∧ ((withE n e).book.entries)[j] = e) := fun j hj => by
  rcases Nat.lt_or_ge j n.book.entries.length with h9 | h9
  ·exact .inl ⟨h9, hget j h9⟩
  ·have : j = n.book.entries.length := by rw [hes] at hj; simp at hj; omega
   subst this
   exact .inr ⟨rfl, hlast⟩
 have hca : ∀ s, cell (withE n e).two.a s = cell n.two.a s := fun s => by rw [hw]; rfl
 have hwa : (withE n e).two.a.wait = n.two.a.wait ++ [entW e] := by rw [hw]
 refine ⟨hok, by rw [hw], by rw [hca]; exact h.head, by rw [hca]; exact h.oldh, fun j hj hd => ?_, fun i h1 h2 => ?_, fun x hx => ?_, fun j hj hd => ?_, fun hm => ?_, ?_⟩
 ·rw [hca]
  have hd : ((withE n e).book.entries)[j].index ≤ n.durable := hd
  rcases hcase j hj with ⟨hj2, e2⟩ | ⟨rfl, e2⟩
  ·rw [e2] at hd ⊢; exact h.ents j hj2 hd
  ·rw [e2] at hd; omega
 ·rw [hca]; exact h.olds i h1 h2
 ·rw [hwa] at hx
  rcases List.mem_append.1 hx with hx | hx
  ·rcases h.wait x hx with ⟨j, hj, h1, h2⟩ | h9
   ·refine .inl ⟨j, by rw [hes]; simp; omega, ?_⟩
    rw [hget j hj]
    exact ⟨h1, h2⟩
   ·exact .inr h9
  ·refine .inl ⟨n.book.entries.length, by rw [hes]; simp, ?_⟩
   rw [hlast, List.mem_singleton.1 hx]
   exact ⟨by show n.durable < e.index; omega, rfl⟩
 ·rw [hwa]
  have hd : n.durable < ((withE n e).book.entries)[j].index := hd
  rcases hcase j hj with ⟨hj2, e2⟩ | ⟨rfl, e2⟩
  ·rw [e2] at hd ⊢; exact List.mem_append_left _ (h.wE j hj2 hd)
  ·rw [e2]; exact List.mem_append_right _ (by simp)
 ·rw [hwa]; exact List.mem_append_left _ (h.wH hm)
 ·have hl := h.len
  have e1 : lastB (withE n e).book = lastB n.book + 1 := by simp only [lastB, hes, List.length_append, List.length_singleton]; show n.book.base + _ = _; omega
  rw [hwa, e1]
  show ((n.two.a.wait ++ [entW e]).length : Int) ≤ lastB n.book + 1 - n.durable + (if n.more then 1 else 0)
  simp only [List.length_append, List.length_singleton]
  omega
theorem LogJ.trim_two (h : LogJ n) {hd : Head} (hh : headOk hd = true) : keptHeadF n.two hd = (⟨⟨n.two.a.kept, n.two.a.wait ++ [headW hd]⟩, ⟨n.two.a.kept, n.two.a.wait ++ [headW hd]⟩⟩, true) ∧ keptOk ⟨⟨n.two.a.kept, n.two.a.wait ++ [headW hd]⟩, ⟨n.two.a.kept, n.two.a.wait ++ [headW hd]⟩⟩ = true := by
 have h0 := head_nums hh
 obtain ⟨h1, h2⟩ := h.wrote (s := hd.num % 2) om (head_sum hh)
 rw [kh_yes h.parts.1 hh]
 exact ⟨h1, h2⟩
theorem trim_same {x : Int} (h : logOkF n = true) (h2 : n.more = true ∨ inB x (n.head.base + 1) n.durable = false) : trimAskedF n x = n := by
 rcases h2 with h2 | h2
 ·exact ta_more h h2
 ·exact ta_out h h2
theorem LogJ.trim_eq (h : LogJ n) {x : Int} (hm : n.more = false) (hx : inB x (n.head.base + 1) n.durable = true) : trimAskedF n x = ⟨⟨⟨n.two.a.kept, n.two.a.wait ++ [headW (nextF n x)]⟩, ⟨n.two.a.kept, n.two.a.wait ++ [headW (nextF n x)]⟩⟩, n.head, nextF n x, true, n.book, n.seen, n.durable, n.owe⟩ := by
 have hh := next_ok h.ok hx
 obtain ⟨k1, k2⟩ := h.trim_two hh
 rw [ta_yes h.ok hm hx (by rw [k1]), k1]
theorem LogJ.trim (h : LogJ n) (x : Int) : LogJ (trimAskedF n x) := by
 cases hm : n.more
 ·cases hx : inB x (n.head.base + 1) n.durable
  ·rw [trim_same h.ok (.inr hx)]; exact h
  ·have hh := next_ok h.ok hx
   obtain ⟨k1, k2⟩ := h.trim_two hh
   have hok : logOkF (trimAskedF n x) = true := by
    rw [h.trim_eq hm hx]
    exact two_ok (n := withNext n x) (withNext_ok h.ok hx) k2
   rw [h.trim_eq hm hx] at hok ⊢
   refine ⟨hok, rfl, h.head, h.oldh, h.ents, h.olds, fun y hy => ?_, fun j hj hd => List.mem_append_left _ (h.wE j hj hd), fun _ => List.mem_append_right _ (by simp), ?_⟩
   ·rcases List.mem_append.1 hy with hy | hy
    ·rcases h.wait y hy with h9 | ⟨h9, _⟩
     ·exact .inl h9
     ·rw [hm] at h9; cases h9
    ·exact .inr ⟨rfl, List.mem_singleton.1 hy⟩
   ·have hl := h.len
    rw [hm] at hl
    show ((n.two.a.wait ++ [headW (nextF n x)]).length : Int) ≤ lastB n.book - n.durable + (if true = true then 1 else 0)
    simp only [List.length_append, List.length_singleton, if_true]
    simp at hl
    omega
 ·rw [trim_same h.ok (.inl hm)]; exact h
end
section
variable {n : LogN}
end
theorem new_rest : Rest (newTwoF 22) := ⟨by kernel_rfl, rfl, rfl⟩
theorem newKept_eq : newKeptF = ⟨⟨(List.replicate 22 ([] : List Int)).set 0 (withSumF (headRowF noHead)), []⟩, ⟨(List.replicate 22 ([] : List Int)).set 0 (withSumF (headRowF noHead)), []⟩⟩ ∧ Rest newKeptF := by
 have h1 : headOk noHead = true := by kernel_rfl
 obtain ⟨e, h2⟩ := mended_rest (s := 0) (row := headRowF noHead) new_rest om (head_sum h1)
 have e2 : newKeptF = mendedF (newTwoF 22) 0 (headRowF noHead) := rfl
 rw [e2, e]
 exact ⟨rfl, h2⟩
theorem newJ : LogJ newLogF := by
 obtain ⟨e, hr⟩ := newKept_eq
 have h1 : headOk noHead = true := by kernel_rfl
 have hb : bookOk ⟨0, 0, []⟩ = true := by kernel_rfl
 have hok : logOkF newLogF = true := log_mk hr.ok h1 hb rfl rfl rfl ⟨by decide, by decide⟩ rfl rfl
 have hc : ∀ s : Int, cell newLogF.two.a s = if (0 : Nat) = s.toNat then withSumF (headRowF noHead) else [] := fun s => by
  show newKeptF.a.kept.getD s.toNat [] = _
  rw [e]
  simp only
  rw [getD_set (by simp)]
  split
  ·rfl
  ·simp only [List.getD_eq_getElem?_getD]
   cases hq : (List.replicate 22 ([] : List Int))[s.toNat]? with
   | none => rfl
   | some r => rw [List.eq_of_mem_replicate (List.mem_of_getElem? hq)]; rfl
 refine ⟨hok, ?_, ?_, ?_, fun j hj _ => ?_, fun i h1 h2 => ?_, fun x hx => ?_, fun j hj _ => ?_, (by intro h; cases h), ?_⟩
 ·show newKeptF.b = newKeptF.a
  rw [e]
 ·rw [hc]; rfl
 ·rw [hc]; exact .inl (by decide)
 ·have hj : j < 0 := hj
  omega
 ·have := slot_rng i
  rw [hc, if_neg om]
  exact .inl (by simp)
 ·have hx : x ∈ newKeptF.a.wait := hx
  rw [e] at hx
  simp at hx
 ·have hj : j < 0 := hj
  omega
 ·show ((newKeptF.a.wait.length : Nat) : Int) ≤ _
  rw [e]
  decide
end Go.Proofs.YtinmcdcmidlgpaaGreatDoor
