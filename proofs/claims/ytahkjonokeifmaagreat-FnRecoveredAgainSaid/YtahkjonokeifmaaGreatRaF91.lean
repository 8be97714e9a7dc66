/- Walks of functions of the program, printed by a program of the prover. -/
import Derived.Test.YtahkjonokeifmaaGreatRaF61
import Derived.Test.YtahkjonokeifmaaGreatRaVN
import Derived.Test.YtahkjonokeifmaaGreatRaVDF
import Derived.LaidEql
import Derived.Stop.Asserts
import Derived.RowKitTokens
import Derived.Test.YtahkjonokeifmaaGreatRaF47
import Derived.Test.YtahkjonokeifmaaGreatRaF22
namespace Go.Proofs.YtahkjonokeifmaaGreat
open Go.ChangeShapes Go.WideShapes Go.ChangeAt Go.RowKit
set_option linter.unusedVariables false
set_option linter.unusedSimpArgs false
set_option maxHeartbeats 1000000
set_option maxRecDepth 100000
attribute [local irreducible] EvL Ev EvE Quiet Eff Pure RDk RDb RDo
theorem diskOk_rest {K : List (List Int)} (h1 : 1 ≤ K.length) (h2 : K.length ≤ 40) (h : ∀ r ∈ K, rowOk r = true) : diskOk ⟨K, []⟩ = true := by
 simp only [diskOk, Bool.and_eq_true, decide_eq_true_eq, List.all_eq_true, List.length_nil]
 exact ⟨h1, h2, by omega, h, by simp⟩
theorem rest_sync {t : Two} (h : keptOk t = true) : Rest (bothSyncF t) := by
 have h1 := (keptOk_iff.1 h).1
 have h2 := twoOk_both h1
 refine ⟨by rw [kept_sync]; exact h, ?_, ?_⟩
 ·rw [bsync_yes h1, fall_yes h2.1]
 ·rw [bsync_yes h1, fall_yes h2.2]
theorem rest_fall {t : Two} (h : keptOk t = true) (F : List Int) : Rest (bothFallenF t F) := by
 obtain ⟨h1, h3⟩ := keptOk_iff.1 h
 have h2 := twoOk_both h1
 have h4 := bfall_ok (F := F) h1
 refine ⟨keptOk_iff.2 ⟨h4, ?_⟩, ?_, ?_⟩
 ·rw [bf_yes h1]; simp only [fall_len h2.1]; exact h3
 ·rw [bf_yes h1, fall_yes h2.1]
 ·rw [bf_yes h1, fall_yes h2.2]
theorem torn_self {r : List Int} : tornF r r = r := List.take_append_drop _ _
theorem torn_torn {r old : List Int} : tornF r (tornF r old) = tornF r old := by
 unfold tornF
 have hl : (r.take (r.length / 2)).length = r.length / 2 := by rw [List.length_take]; omega
 rw [List.drop_append_of_le_length om, List.drop_of_length_le om]
 rfl
theorem wait_nat {d : Disk} (hd : diskOk d = true) {k : Nat} (hk : k < d.wait.length) {s : Int} (hs : 0 ≤ s) : d.wait[k].1.toNat = s.toNat ↔ d.wait[k].1 = s := by
 have := wait_at hd hk
 omega
theorem fallUp_miss {d : Disk} (hd : diskOk d = true) {F : List Int} {all : Bool} {s : Int} (hs : 0 ≤ s) (h : ∀ x ∈ d.wait, x.1 ≠ s) : ∀ k, k ≤ d.wait.length → (fallUp d F all k).getD s.toNat [] = cell d s
 | 0, _ => rfl
 | k + 1, hk => by
  have ih := fallUp_miss hd (F := F) (all := all) hs h k om
  have hl := fallUp_len d F all k
  have hw := wait_at hd (k := k) om
  have hne : d.wait[k].1.toNat ≠ s.toNat := fun e => h _ (List.getElem_mem (show k < d.wait.length by omega)) ((wait_nat hd om hs).1 e)
  rw [show fallUp d F all (k + 1) = fallStep (fateAt F k) all (fallUp d F all k) d.wait[k] by simp only [fallUp]; rw [getD_lenW (show k < d.wait.length by omega)]]
  simp only [fallStep]
  split
  ·rw [getD_set om, if_neg hne]; exact ih
  ·split
   ·rw [getD_set om, if_neg hne]; exact ih
   ·exact ih
theorem fallUp_hit {d : Disk} (hd : diskOk d = true) {F : List Int} {s : Int} {r : List Int} (hs : 0 ≤ s) (h : ∀ x ∈ d.wait, x.1 = s → x.2 = r) : ∀ k, k ≤ d.wait.length → (fallUp d F false k).getD s.toNat [] = cell d s ∨ (fallUp d F false k).getD s.toNat [] = r ∨ (fallUp d F false k).getD s.toNat [] = tornF r (cell d s)
 | 0, _ => .inl rfl
 | k + 1, hk => by
  have ih := fallUp_hit hd (F := F) hs h k om
  have hl := fallUp_len d F false k
  have hw := wait_at hd (k := k) om
  rw [show fallUp d F false (k + 1) = fallStep (fateAt F k) false (fallUp d F false k) d.wait[k] by simp only [fallUp]; rw [getD_lenW (show k < d.wait.length by omega)]]
  by_cases e : d.wait[k].1 = s
  ·have hr := h _ (List.getElem_mem (show k < d.wait.length by omega)) e
   simp only [fallStep]
   rw [hr, e]
   split
   ·rw [getD_set om, if_pos rfl]; exact .inr (.inl rfl)
   ·split
    ·rw [getD_set om, if_pos rfl]
     rcases ih with ih | ih | ih
     ·rw [ih]; exact .inr (.inr rfl)
     ·rw [ih, torn_self]; exact .inr (.inl rfl)
     ·rw [ih, torn_torn]; exact .inr (.inr rfl)
    ·exact ih
  ·have hne : d.wait[k].1.toNat ≠ s.toNat := fun e2 => e ((wait_nat hd om hs).1 e2)
   simp only [fallStep]
   split
   ·rw [getD_set om, if_neg hne]; exact ih
   ·split
    ·rw [getD_set om, if_neg hne]; exact ih
    ·exact ih
theorem cell_miss {d : Disk} (hd : diskOk d = true) (F : List Int) (all : Bool) {s : Int} (hs : 0 ≤ s) (h : ∀ x ∈ d.wait, x.1 ≠ s) : cell (fallF d F all) s = cell d s := by
 rw [fall_yes hd]
 exact fallUp_miss hd hs h _ (Nat.le_refl _)
theorem cell_fall {d : Disk} (hd : diskOk d = true) (F : List Int) {s : Int} {r : List Int} (hs : 0 ≤ s) (h : ∀ x ∈ d.wait, x.1 = s → x.2 = r) : cell (fallF d F false) s = cell d s ∨ cell (fallF d F false) s = r ∨ cell (fallF d F false) s = tornF r (cell d s) := by
 rw [fall_yes hd]
 exact fallUp_hit hd hs h _ (Nat.le_refl _)
theorem wrote_yes2 {d : Disk} {s : Int} {row : List Int} (hd : diskOk d = true) (hs : 0 ≤ s ∧ s < d.kept.length) (hr : rowOk row = true) (hw : d.wait.length < 60) : wroteF d s row = (⟨d.kept, d.wait ++ [(s, row)]⟩, true) := by
 refine wrote_yes hd ?_
 unfold wroteOk
 rw [hasAt_iff.2 hs, hr]
 simpa using hw
theorem both_yes2 {t : Two} {s : Int} {row : List Int} (ht : twoOk t = true) (hs : 0 ≤ s ∧ s < t.a.kept.length) (hr : canSum row = true) (hwa : t.a.wait.length < 60) (hwb : t.b.wait.length < 60) : bothWroteF t s row = (⟨⟨t.a.kept, t.a.wait ++ [(s, withSumF row)]⟩, ⟨t.b.kept, t.b.wait ++ [(s, withSumF row)]⟩⟩, true) := by
 obtain ⟨h1, h2, h3⟩ := twoOk_iff.1 ht
 unfold bothWroteF
 rw [ht, hr, wrote_yes2 h1 hs (ws_ok hr) hwa, wrote_yes2 h2 om (ws_ok hr) hwb]
 rfl
theorem set_mix {α : Type} {L K : List α} {k : Nat} (hk : k < L.length) (hK : K.length = L.length) : (L.take k ++ K.drop k).set k L[k] = L.take (k + 1) ++ K.drop (k + 1) := by
 have e1 : (L.take k).length = k := by rw [List.length_take]; omega
 rw [List.take_succ_eq_append_getElem hk, List.drop_eq_getElem_cons (show k < K.length by omega), List.set_append_right _ _ om, e1, Nat.sub_self, List.set_cons_zero, List.append_assoc]
 rfl
theorem mem_set' {α : Type} {l : List α} {k : Nat} {x y : α} (h : y ∈ l.set k x) : y ∈ l ∨ y = x := List.mem_or_eq_of_mem_set h
theorem mended_rest {t : Two} {s : Int} {row : List Int} (h : Rest t) (hs : 0 ≤ s ∧ s < 22) (hr : canSum row = true) : mendedF t s row = ⟨⟨t.a.kept.set s.toNat (withSumF row), []⟩, ⟨t.b.kept.set s.toNat (withSumF row), []⟩⟩ ∧ Rest ⟨⟨t.a.kept.set s.toNat (withSumF row), []⟩, ⟨t.b.kept.set s.toNat (withSumF row), []⟩⟩ := by
 obtain ⟨h1, h2, h3, h4, h5⟩ := h.parts
 have hb := both_yes2 (s := s) h1 om hr (by rw [h.wa]; simp) (by rw [h.wb]; simp)
 have hok := both_ok (x := s) (row := row) h1
 rw [h.wa, h.wb, List.nil_append] at hb
 rw [hb] at hok
 have k1 := twoOk_both hok
 have e : mendedF t s row = ⟨⟨t.a.kept.set s.toNat (withSumF row), []⟩, ⟨t.b.kept.set s.toNat (withSumF row), []⟩⟩ := by
  unfold mendedF
  rw [hb]
  simp only [if_true]
  rw [bsync_yes hok, fall_yes k1.1, fall_yes k1.2]
  simp [fallUp, fallStep]
 refine ⟨e, ?_, rfl, rfl⟩
 have hrow : ∀ (K : List (List Int)), (∀ r ∈ K, rowOk r = true) → ∀ r ∈ K.set s.toNat (withSumF row), rowOk r = true := fun K hK r hr2 => by
  rcases mem_set' hr2 with h9 | h9
  ·exact hK r h9
  ·rw [h9]; exact ws_ok hr
 refine keptOk_iff.2 ⟨twoOk_iff.2 ⟨diskOk_rest (by simp; omega) (by simp; omega) (hrow _ (diskOk_sizes h2).2.2.2.1), diskOk_rest (by simp; omega) (by simp; omega) (hrow _ (diskOk_sizes h3).2.2.2.1), by simp; omega⟩, by simpa using h4⟩
theorem mend_run {t : Two} {R : List (List Int)} (h : Rest t) (hl : R.length = 22) (hr : ∀ r ∈ R, canSum r = true) : ∀ k, k ≤ 22 → mendUp R t k = ⟨⟨(R.map withSumF).take k ++ t.a.kept.drop k, []⟩, ⟨(R.map withSumF).take k ++ t.b.kept.drop k, []⟩⟩ ∧ Rest (mendUp R t k)
 | 0, _ => by
  have e : mendUp R t 0 = t := rfl
  rw [e]
  refine ⟨?_, h⟩
  have h1 := h.wa
  have h2 := h.wb
  obtain ⟨⟨ka, wa⟩, ⟨kb, wb⟩⟩ := t
  simp only at h1 h2
  subst h1; subst h2
  simp
 | k + 1, hk => by
  obtain ⟨e, h1⟩ := mend_run h hl hr k om
  obtain ⟨_, _, _, h4, h5⟩ := h.parts
  have hkl : k < R.length := by omega
  have hg : R.getD k [] = R[k] := by simp [List.getD_eq_getElem?_getD, List.getElem?_eq_getElem hkl]
  obtain ⟨m1, m2⟩ := mended_rest (s := (k : Int)) (row := R[k]) h1 om (hr _ (List.getElem_mem hkl))
  have e2 : mendUp R t (k + 1) = mendedF (mendUp R t k) k R[k] := by simp only [mendUp, hg]
  have hm : withSumF R[k] = (R.map withSumF)[k]'(by simpa using hkl) := by simp
  rw [e2, m1, e]
  refine ⟨?_, by rw [e] at m2; exact m2⟩
  simp only [Int.toNat_natCast]
  rw [hm, set_mix (by simpa using hkl) (by simp; omega), set_mix (by simpa using hkl) (by simp; omega)]
theorem mend_all {t : Two} {R : List (List Int)} (h : Rest t) (hl : R.length = 22) (hr : ∀ r ∈ R, canSum r = true) : mendUp R t 22 = ⟨⟨R.map withSumF, []⟩, ⟨R.map withSumF, []⟩⟩ ∧ Rest ⟨⟨R.map withSumF, []⟩, ⟨R.map withSumF, []⟩⟩ := by
 obtain ⟨e, h1⟩ := mend_run h hl hr 22 (Nat.le_refl _)
 obtain ⟨_, _, _, h4, h5⟩ := h.parts
 have e2 : (R.map withSumF).take 22 = R.map withSumF := List.take_of_length_le (by simp; omega)
 rw [e2, List.drop_of_length_le om, List.drop_of_length_le om, List.append_nil] at e
 rw [e] at h1
 exact ⟨e, h1⟩
theorem nil_sum : canSum [] = true := by decide
theorem recRows_sum {h : Head} (hh : headOk h = true) {es : List Entry} (he : ∀ e ∈ es, entryOk e = true) : ∀ r ∈ recRows h es, canSum r = true := by
 have key : ∀ (es : List Entry), (∀ e ∈ es, entryOk e = true) → ∀ (R : List (List Int)), (∀ r ∈ R, canSum r = true) → ∀ r ∈ es.foldl setE R, canSum r = true := by
  intro es
  induction es with
  | nil => intro _ R h; exact h
  | cons e es ih =>
   intro he R h
   refine ih (fun x hx => he x (by simp [hx])) _ fun r hr => ?_
   rcases mem_set' hr with h9 | h9
   ·exact h r h9
   ·rw [h9]; exact slot_sum (he e (by simp))
 refine key es he _ fun r hr => ?_
 rcases mem_set' hr with h9 | h9
 ·rw [List.eq_of_mem_replicate h9]; exact nil_sum
 ·rw [h9]; exact head_sum hh
theorem slot_ne {i j : Int} (h : i ≠ j) (h1 : i - j < 20) (h2 : j - i < 20) : slotF i ≠ slotF j := by unfold slotF; omega
theorem slot_ne' {i j : Int} (h : i ≠ j) (h1 : i - j < 20) (h2 : j - i < 20) : (slotF i).toNat ≠ (slotF j).toNat := by unfold slotF; omega
theorem recRows_at {h : Head} {base time : Int} {es : List Entry} (hb : bookOk ⟨base, time, es⟩ = true) : ∀ k, k ≤ es.length → (∀ j (hj : j < es.length), j < k → (recRows h (es.take k)).getD (slotF es[j].index).toNat [] = slotRowF es[j]) ∧ ∀ s, (∀ j (hj : j < es.length), j < k → (slotF es[j].index).toNat ≠ s) → (recRows h (es.take k)).getD s [] = (recRow0 h).getD s []
 | 0, _ => ⟨fun j _ hj => by omega, fun s _ => by simp [recRows]⟩
 | k + 1, hk => by
  obtain ⟨ih1, ih2⟩ := recRows_at (h := h) hb k om
  have hlen : es.length ≤ 20 := (book_bd hb).2.2.1
  have hix : ∀ j (hj : j < es.length), es[j].index = base + 1 + j := ent_ix hb
  have hkl : k < es.length := by omega
  have hrl := recRows_len h (es.take k)
  have hsl := slot_rng es[k].index
  rw [← recRows_next hkl]
  unfold setE
  refine ⟨fun j hj hjk => ?_, fun s hs => ?_⟩
  ·rw [getD_set om]
   have h1 := hix j hj
   have h2 := hix k hkl
   by_cases e : j = k
   ·subst e; rw [if_pos rfl]
   ·rw [if_neg (slot_ne' om om om)]
    exact ih1 j hj om
  ·rw [getD_set om, if_neg (hs k hkl om)]
   exact ih2 s fun j hj hjk => hs j hj om
def recD (h : Head) (es : List Entry) : Disk := ⟨(recRows h es).map withSumF, []⟩
theorem map_getD {L : List (List Int)} {s : Nat} (hs : s < L.length) : (L.map withSumF).getD s [] = withSumF (L.getD s []) := by
 simp only [List.getD_eq_getElem?_getD, List.getElem?_map, List.getElem?_eq_getElem hs]
 rfl
theorem row0_getD {h : Head} (hh : headOk h = true) (s : Nat) : (recRow0 h).getD s [] = if (h.num % 2).toNat = s then headRowF h else [] := by
 unfold recRow0
 rw [getD_set (by have := head_nums hh; simp; omega)]
 split
 ·rfl
 ·simp only [List.getD_eq_getElem?_getD]
  cases hq : (List.replicate 22 ([] : List Int))[s]? with
  | none => rfl
  | some r => rw [List.eq_of_mem_replicate (List.mem_of_getElem? hq)]; rfl
section
variable {h : Head} {time : Int} {es : List Entry}
theorem recD_slot (hb : bookOk ⟨h.base, time, es⟩ = true) {j : Nat} (hj : j < es.length) : cell (recD h es) (slotF es[j].index) = withSumF (slotRowF es[j]) := by
 have hl := recRows_len h es
 have hsl := slot_rng es[j].index
 have := (recRows_at (h := h) hb es.length (Nat.le_refl _)).1 j hj hj
 rw [List.take_length] at this
 unfold cell recD
 simp only
 rw [map_getD om, this]
theorem recD_other (hb : bookOk ⟨h.base, time, es⟩ = true) {s : Int} (hs : 0 ≤ s ∧ s < 22) (hne : ∀ j (hj : j < es.length), slotF es[j].index ≠ s) : cell (recD h es) s = withSumF ((recRow0 h).getD s.toNat []) := by
 have hl := recRows_len h es
 have := (recRows_at (h := h) hb es.length (Nat.le_refl _)).2 s.toNat fun j hj _ e => hne j hj (by have := slot_rng es[j].index; omega)
 rw [List.take_length] at this
 unfold cell recD
 simp only
 rw [map_getD om, this]
theorem recD_head (hh : headOk h = true) (hb : bookOk ⟨h.base, time, es⟩ = true) : cell (recD h es) (h.num % 2) = withSumF (headRowF h) := by
 have h1 := head_nums hh
 rw [recD_other hb om fun j hj e => by have := slot_rng es[j].index; omega, row0_getD hh, if_pos rfl]
theorem ws_nil : withSumF [] = [7] := by decide
theorem recD_free (hh : headOk h = true) (hb : bookOk ⟨h.base, time, es⟩ = true) {s : Int} (hs : 0 ≤ s ∧ s < 22) (h1 : s ≠ h.num % 2) (hne : ∀ j (hj : j < es.length), slotF es[j].index ≠ s) : cell (recD h es) s = [7] := by
 have h2 := head_nums hh
 rw [recD_other hb hs hne, row0_getD hh, if_neg om, ws_nil]
theorem rec_run {t : Two} (hk : keptOk t = true) (hi : headIn t = (h, true)) (hh : headOk h = true) (hbk : bookInF t h = ⟨h.base, h.time, es⟩) (hb : bookOk ⟨h.base, h.time, es⟩ = true) : recF t = (⟨recD h es, recD h es⟩, h, ⟨h.base, h.time, es⟩, true) ∧ Rest ⟨recD h es, recD h es⟩ := by
 have he : ∀ e ∈ es, entryOk e = true := fun e hm => ents_ok (book_bd hb).2.2.2.2 e hm
 obtain ⟨e1, e2⟩ := mend_all (rest_sync hk) (recRows_len h es) (recRows_sum hh he)
 refine ⟨?_, e2⟩
 rw [rec_yes (by rw [hi]), hi]
 simp only [hbk]
 rw [e1]
 rfl
end
structure Ask where
 client : Int
 seq : Int
 kind : Int
 a : Int
 b : Int
 c : Int
 d : Int
@[reducible] def askC (a : Ask) : List C := [iC a.client, iC a.seq, iC a.kind, iC a.a, iC a.b, iC a.c, iC a.d]
def askOkF (a : Ask) : Bool := askerOk a.client && (seqOk a.seq && opOk a.kind a.a a.b a.c a.d)
def entA (n : LogN) (a : Ask) (now : Int) : Entry := ⟨lastB n.book + 1, max now (timeB n.book), a.client, a.seq, a.kind, a.a, a.b, a.c, a.d⟩
def keptEntryF (t : Two) (e : Entry) : Two × Bool := if keptOk t then if entryOk e then bothWroteF t (slotF e.index) (slotRowF e) else (t, false) else (zeroT, false)
theorem ke_no {t : Two} {e : Entry} (h : keptOk t = false) : keptEntryF t e = (zeroT, false) := by simp [keptEntryF, h]
theorem ke_yes {t : Two} {e : Entry} (h : keptOk t = true) (he : entryOk e = true) : keptEntryF t e = bothWroteF t (slotF e.index) (slotRowF e) := by simp [keptEntryF, h, he]
def takesA (n : LogN) (e : Entry) : Bool := fitsF n.book e && (keptEntryF n.two e).2
theorem book_time {b : Book} (hb : bookOk b = true) : timeOk (timeB b) = true := by
 have hbd := book_bd hb
 cases hl : b.entries.length with
 | zero => rw [timeB_nil hl]; exact hbd.2.2.2.1
 | succ m =>
  rw [timeB_last hl]
  have := ents_ok hbd.2.2.2.2 _ (List.getElem_mem (show m < b.entries.length by omega))
  simp only [entryOk, Bool.and_eq_true] at this
  exact this.2.1
theorem entA_ok {n : LogN} {a : Ask} {now : Int} (hb : bookOk n.book = true) (ha : askOkF a = true) (hn : timeOk now = true) (h : lastB n.book < 2000) : entryOk (entA n a now) = true := by
 simp only [askOkF, Bool.and_eq_true] at ha
 have h1 := book_last hb
 have h2 := inB_iff.1 (book_time hb)
 have h3 := inB_iff.1 hn
 have h4 : timeOk (max now (timeB n.book)) = true := inB_iff.2 ⟨by omega, by omega⟩
 have h5 : indexOk (lastB n.book + 1) = true := inB_iff.2 ⟨by omega, by omega⟩
 simp only [entA, entryOk, h4, h5, ha.1, ha.2.1, ha.2.2, Bool.and_self]
theorem entA_fits {n : LogN} {a : Ask} {now : Int} (hb : bookOk n.book = true) (ha : askOkF a = true) (hn : timeOk now = true) (h : lastB n.book < 2000) (h2 : n.book.entries.length < 20) : fitsF n.book (entA n a now) = true :=
 fits_iff.2 ⟨entA_ok hb ha hn h, rfl, by show max now (timeB n.book) ≥ timeB n.book; omega, h2⟩
theorem book_last2 {b : Book} (hb : bookOk b = true) : lastB b ≤ 2000 := by
 cases hl : b.entries.length with
 | zero => have := book_bd hb; unfold lastB; omega
 | succ m =>
  have hm : m < b.entries.length := by omega
  have h1 := ent_ix hb m hm
  have h2 := entry_ix (ents_ok (book_bd hb).2.2.2.2 _ (List.getElem_mem hm))
  unfold lastB
  omega
section
variable {n : LogN} {a : Ask} {now : Int}
end
theorem eqHd_refl {h : Head} : eqHd h h = true := by simp [eqHd, eqN]
theorem log_mk {n : LogN} (h1 : keptOk n.two = true) (h2 : headOk n.head = true) (h3 : bookOk n.book = true) (h4 : n.book.base = n.head.base) (h5 : n.book.time = n.head.time) (h6 : overL n.head.seen n.book.entries = some n.seen) (h7 : n.book.base ≤ n.durable ∧ n.durable ≤ lastB n.book)
  (h8 : n.owe = (partF n.book (n.durable + 1) 2000).map ackF) (h9 : if n.more then n.head.base + 1 ≤ n.next.base ∧ n.next.base ≤ n.durable ∧ n.next = nextF n n.next.base else n.next = noHead) : logOkF n = true := by
 have hs := (head_bd h2).2.2.2.2
 have e := so4 hs (by have := book_bd h3; omega) h6
 simp only [logOkF, frontF, midF, owesF, Bool.and_eq_true, decide_eq_true_eq]
 refine ⟨⟨h1, h2, h3, h4, h5⟩, ⟨by rw [e], by rw [e]; exact eqN_refl, inB_iff.2 h7⟩, by rw [← h8]; exact eqN_refl, ?_⟩
 cases hm : n.more with
 | false =>
  rw [hm] at h9
  simp only [Bool.false_eq_true, if_false] at h9 ⊢
  rw [h9]; exact eqHd_refl
 | true =>
  rw [hm] at h9
  simp only [if_true] at h9 ⊢
  rw [Bool.and_eq_true]
  refine ⟨inB_iff.2 ⟨h9.1, h9.2.1⟩, ?_⟩
  rw [← h9.2.2]; exact eqHd_refl
theorem log_dur {n : LogN} (h : logOkF n = true) : n.book.base ≤ n.durable ∧ n.durable ≤ lastB n.book := inB_iff.1 (log_facts h).2
theorem overL_append : ∀ {es fs : List Entry} {l : List Mark}, overL l (es ++ fs) = (overL l es).bind fun c => overL c fs
 | [], fs, l => rfl
 | e :: es, fs, l => by
  simp only [List.cons_append, overL]
  split
  ·exact overL_append
  ·rfl
theorem ents_drop {l : List Entry} (h : entriesOk l = true) (k : Nat) : entriesOk (l.drop k) = true := by
 obtain ⟨h1, h2⟩ := entriesOk_iff.1 h
 refine entriesOk_iff.2 ⟨by rw [List.length_drop]; omega, fun q hq => ?_⟩
 have hql : k + q < l.length := by rw [List.length_drop] at hq; omega
 have h3 := h2 (k + q) hql
 rw [entStep_at hql] at h3
 rw [entStep_at hq]
 have e1 : (l.drop k)[q] = l[k + q] := by simp
 rw [e1]
 simp only [Bool.and_eq_true] at h3 ⊢
 refine ⟨h3.1, ?_⟩
 cases q with
 | zero => rfl
 | succ j =>
  have h4 : entOver l ((k + j) + 1) (l[k + (j + 1)]'hql) = true := h3.2
  have hj : k + j < l.length := by omega
  simp only [entOver, List.getElem?_drop, List.getElem?_eq_getElem hj] at h4 ⊢
  exact h4
theorem time_at {b : Book} {x : Int} (h1 : b.base < x) (h2 : x ≤ lastB b) : ∃ m, ∃ hm : m < b.entries.length, x = b.base + 1 + m ∧ timeAtF b x = b.entries[m].time := by
 obtain ⟨m, hm1, hm2⟩ := at_get h1 h2
 refine ⟨m, hm2, by omega, ?_⟩
 unfold timeAtF
 rw [if_neg om, atB_eq hm1 hm2]
theorem book_drop {b : Book} (hb : bookOk b = true) {x : Int} (h1 : b.base ≤ x) (h2 : x ≤ lastB b) : bookOk ⟨x, timeAtF b x, b.entries.drop (x - b.base).toNat⟩ = true := by
 have hbd := book_bd hb
 have h9 := hb
 simp only [bookOk, Bool.and_eq_true, decide_eq_true_eq] at h9
 have hl2 := book_last2 hb
 by_cases e : x = b.base
 ·subst e
  have : timeAtF b b.base = b.time := by simp [timeAtF]
  rw [this, Int.sub_self]
  exact hb
 ·obtain ⟨m, hm, hx, ht⟩ := time_at (b := b) (x := x) om h2
  have hk : (x - b.base).toNat = m + 1 := by omega
  have hem := ents_ok hbd.2.2.2.2 _ (List.getElem_mem hm)
  have htm : timeOk b.entries[m].time = true := by
   simp only [entryOk, Bool.and_eq_true] at hem
   exact hem.2.1
  rw [hk, ht]
  simp only [bookOk, Bool.and_eq_true, decide_eq_true_eq]
  refine ⟨inB_iff.2 ⟨by omega, by omega⟩, htm, ?_, by rw [List.length_drop]; omega, ents_drop hbd.2.2.2.2 _, ?_⟩
  ·have : ¬ x = 0 := by omega
   simp [this]
  ·cases hl : b.entries.drop (m + 1) with
   | nil => rfl
   | cons a l =>
    have hlen : m + 1 < b.entries.length := by
     have := congrArg List.length hl
     simp only [List.length_drop, List.length_cons] at this
     omega
    rw [List.drop_eq_getElem_cons hlen] at hl
    cases hl
    have hst := (entriesOk_iff.1 hbd.2.2.2.2).2 (m + 1) hlen
    rw [entStep_at hlen, entOver_at hlen om] at hst
    simp only [Bool.and_eq_true, decide_eq_true_eq] at hst
    have hix := ent_ix hb (m + 1) hlen
    simp only [Bool.and_eq_true, decide_eq_true_eq]
    exact ⟨by omega, by simpa using hst.2.2⟩
theorem part_none {b : Book} (hb : bookOk b = true) : partF b (lastB b + 1) 2000 = [] := by
 unfold partF
 refine List.filter_eq_nil_iff.2 fun e he => ?_
 obtain ⟨j, hj, rfl⟩ := List.mem_iff_getElem.1 he
 have := ent_ix hb j hj
 unfold lastB
 simp only [inB, Bool.and_eq_true, decide_eq_true_eq]
 omega
theorem log_bases {n : LogN} (h : logOkF n = true) : n.book.base = n.head.base ∧ n.book.time = n.head.time := ⟨(log_all h).2.2.2.1, (log_all h).2.2.2.2⟩
theorem next_over {n : LogN} (h : logOkF n = true) {x : Int} (h1 : n.book.base ≤ x) (h2 : x ≤ lastB n.book) : overL n.head.seen (n.book.entries.take (x - n.book.base).toNat) = some (nextF n x).seen ∧ overL (nextF n x).seen (n.book.entries.drop (x - n.book.base).toNat) = some n.seen := by
 obtain ⟨hk, hh, hb, he, ht⟩ := log_all h
 obtain ⟨h3, h4, h5⟩ := log_seen h
 have hs := (head_bd hh).2.2.2.2
 have hbd := book_bd hb
 obtain ⟨c, hc⟩ := over_prefix h3 (x - n.book.base).toNat
 have e : (nextF n x).seen = c := by
  unfold nextF
  simp only
  rw [part_take hb, so4 hs (by rw [List.length_take]; omega) hc]
 rw [e]
 refine ⟨hc, ?_⟩
 have h6 := h3
 rw [← List.take_append_drop (x - n.book.base).toNat n.book.entries, overL_append, hc] at h6
 exact h6
theorem fresh_of {n : LogN} {e : Entry} (h : logOkF n = true) (h1 : entryOk e = true) (h2 : (findM n.seen e.client).seq < e.seq) (h3 : e.index = lastB n.book + 1) : freshF n.seen e = true := by
 obtain ⟨hk, hh, hb, he, ht⟩ := log_all h
 obtain ⟨h4, h5, h6⟩ := log_seen h
 have hl : lastF n.seen = lastB n.book := by
  cases hl : n.book.entries.length with
  | zero =>
   rw [List.eq_nil_of_length_eq_zero hl] at h4
   have h4' : n.head.seen = n.seen := Option.some.inj h4
   have hx : lastF n.head.seen = n.head.base := by
    simp only [headOk, Bool.and_eq_true, decide_eq_true_eq] at hh
    exact hh.2.2.2.2.2
   unfold lastB
   rw [← h4', hx, hl]
   omega
  | succ m =>
   have hm : m < n.book.entries.length := by omega
   have h8 := over_last (c := n.seen) h5 hm (by rw [List.take_of_length_le om]; exact h4)
   have h9 := ent_ix hb m hm
   unfold lastB
   omega
 unfold freshF
 rw [h1]
 simp only [Bool.true_and, Bool.and_eq_true, decide_eq_true_eq]
 omega
def oldL (i : Int) (c : List Int) : Prop := c.length ≤ 1 ∨ ∃ e, entryOk e = true ∧ e.index < i ∧ c = withSumF (slotRowF e)
theorem oldL.s {i : Int} {c : List Int} (h : oldL i c) : oldS i c := by
 rcases h with h | ⟨e, h1, h2, h3⟩
 ·exact .inl h
 ·exact .inr ⟨e, h1, by omega, h3⟩
def entW (e : Entry) : Int × List Int := (slotF e.index, withSumF (slotRowF e))
def headW (h : Head) : Int × List Int := (h.num % 2, withSumF (headRowF h))
structure LogJ (n : LogN) : Prop where
 ok : logOkF n = true
 same : n.two.b = n.two.a
 head : cell n.two.a (n.head.num % 2) = withSumF (headRowF n.head)
 oldh : lowH n.head.num (cell n.two.a (1 - n.head.num % 2))
 ents : ∀ j (hj : j < n.book.entries.length), n.book.entries[j].index ≤ n.durable → cell n.two.a (slotF n.book.entries[j].index) = withSumF (slotRowF n.book.entries[j])
 olds : ∀ i, n.durable < i → i ≤ n.book.base + 20 → oldL i (cell n.two.a (slotF i))
 wait : ∀ x ∈ n.two.a.wait, (∃ j, ∃ hj : j < n.book.entries.length, n.durable < n.book.entries[j].index ∧ x = entW n.book.entries[j]) ∨ (n.more = true ∧ x = headW n.next)
 wE : ∀ j (hj : j < n.book.entries.length), n.durable < n.book.entries[j].index → entW n.book.entries[j] ∈ n.two.a.wait
 wH : n.more = true → headW n.next ∈ n.two.a.wait
 len : (n.two.a.wait.length : Int) ≤ lastB n.book - n.durable + (if n.more then 1 else 0)
section
variable {n : LogN}
theorem LogJ.parts (h : LogJ n) : keptOk n.two = true ∧ headOk n.head = true ∧ bookOk n.book = true ∧ n.book.base = n.head.base ∧ n.book.time = n.head.time ∧ diskOk n.two.a = true ∧ n.two.a.kept.length = 22 := by
 obtain ⟨h1, h2, h3, h4, h5⟩ := log_all h.ok
 obtain ⟨k1, k2⟩ := keptOk_iff.1 h1
 exact ⟨h1, h2, h3, h4, h5, (twoOk_both k1).1, k2⟩
theorem LogJ.ix (h : LogJ n) {j : Nat} (hj : j < n.book.entries.length) : n.book.entries[j].index = n.book.base + 1 + j ∧ j < 20 ∧ entryOk n.book.entries[j] = true := by
 obtain ⟨_, _, hb, _⟩ := h.parts
 have hbd := book_bd hb
 exact ⟨ent_ix hb j hj, by omega, ents_ok hbd.2.2.2.2 _ (List.getElem_mem hj)⟩
theorem LogJ.next (h : LogJ n) (hm : n.more = true) : headOk n.next = true ∧ n.next.num = n.head.num + 1 ∧ n.head.base < n.next.base ∧ n.next.base ≤ n.durable ∧ n.next = nextF n n.next.base := by
 obtain ⟨h1, h2, h3, h4⟩ := log_next h.ok hm
 exact ⟨h1, congrArg Head.num h4, h2, h3, h4⟩
theorem LogJ.w_slot (h : LogJ n) {i : Int} (h1 : n.book.base < i) (h2 : i ≤ n.book.base + 20) {x : Int × List Int} (hx : x ∈ n.two.a.wait) (hs : x.1 = slotF i) : n.durable < i ∧ ∃ j, ∃ hj : j < n.book.entries.length, n.book.entries[j].index = i ∧ x.2 = withSumF (slotRowF n.book.entries[j]) := by
 rcases h.wait x hx with ⟨j, hj, hd, rfl⟩ | ⟨hm, rfl⟩
 ·have hix := h.ix hj
  have e : n.book.entries[j].index = i := by
   have hs : slotF n.book.entries[j].index = slotF i := hs
   rcases Decidable.em (n.book.entries[j].index = i) with h9 | h9
   ·exact h9
   ·exact absurd hs (slot_ne h9 om om)
  exact ⟨by omega, j, hj, e, rfl⟩
 ·have := slot_rng i
  have hs : n.next.num % 2 = slotF i := hs
  omega
theorem LogJ.w_head (h : LogJ n) {p : Int} (hp : p = 0 ∨ p = 1) {x : Int × List Int} (hx : x ∈ n.two.a.wait) (hs : x.1 = p) : n.more = true ∧ p = n.next.num % 2 ∧ x.2 = withSumF (headRowF n.next) := by
 rcases h.wait x hx with ⟨j, hj, hd, rfl⟩ | ⟨hm, rfl⟩
 ·have := slot_rng n.book.entries[j].index
  have hs : slotF n.book.entries[j].index = p := hs
  omega
 ·exact ⟨hm, hs.symm, rfl⟩
theorem LogJ.old_at (h : LogJ n) {j : Nat} (hj : j < n.book.entries.length) (hd : n.durable < n.book.entries[j].index) : oldL n.book.entries[j].index (cell n.two.a (slotF n.book.entries[j].index)) := by
 have := h.ix hj
 exact h.olds _ hd om
theorem LogJ.at (h : LogJ n) {i : Int} (h1 : n.book.base < i) (h2 : i ≤ lastB n.book) : ∃ j, ∃ hj : j < n.book.entries.length, n.book.entries[j].index = i := by
 unfold lastB at h2
 refine ⟨(i - n.book.base - 1).toNat, by omega, ?_⟩
 have := h.ix (j := (i - n.book.base - 1).toNat) om
 omega
theorem LogJ.num (h : LogJ n) : 0 ≤ n.head.num := by
 obtain ⟨_, hh, _⟩ := h.parts
 exact (head_nums hh).1.1
theorem drop_get {α : Type} {l : List α} {k j : Nat} (hj : j < (l.drop k).length) : (l.drop k)[j] = l[k + j]'(by rw [List.length_drop] at hj; omega) := by simp
theorem LogJ.wrote (h : LogJ n) {s : Int} {row : List Int} (hs : 0 ≤ s ∧ s < 22) (hr : canSum row = true) : bothWroteF n.two s row = (⟨⟨n.two.a.kept, n.two.a.wait ++ [(s, withSumF row)]⟩, ⟨n.two.a.kept, n.two.a.wait ++ [(s, withSumF row)]⟩⟩, true) ∧ keptOk ⟨⟨n.two.a.kept, n.two.a.wait ++ [(s, withSumF row)]⟩, ⟨n.two.a.kept, n.two.a.wait ++ [(s, withSumF row)]⟩⟩ = true := by
 obtain ⟨hk, hh, hb, he, ht, hd, h22⟩ := h.parts
 have hk2 := keptOk_iff.1 hk
 have hdu := log_dur h.ok
 have hbd := book_bd hb
 have hlen := h.len
 have hl : n.two.a.wait.length < 60 := by
  unfold lastB at hlen hdu
  split at hlen <;> omega
 have hb := both_yes2 (s := s) hk2.1 om hr hl (by rw [h.same]; exact hl)
 rw [h.same] at hb
 have hok := both_ok (x := s) (row := row) hk2.1
 rw [hb] at hok
 exact ⟨hb, keptOk_iff.2 ⟨hok, h22⟩⟩
theorem LogJ.ask_two (h : LogJ n) {e : Entry} (he : entryOk e = true) : keptEntryF n.two e = (⟨⟨n.two.a.kept, n.two.a.wait ++ [entW e]⟩, ⟨n.two.a.kept, n.two.a.wait ++ [entW e]⟩⟩, true) ∧ keptOk ⟨⟨n.two.a.kept, n.two.a.wait ++ [entW e]⟩, ⟨n.two.a.kept, n.two.a.wait ++ [entW e]⟩⟩ = true := by
 have hs := slot_rng e.index
 obtain ⟨h1, h2⟩ := h.wrote (s := slotF e.index) om (slot_sum he)
 rw [ke_yes h.parts.1 he]
 exact ⟨h1, h2⟩
theorem LogJ.takes (h : LogJ n) {e : Entry} (hf : fitsF n.book e = true) : takesA n e = true := by
 unfold takesA
 rw [hf, (h.ask_two (fits_iff.1 hf).1).1]
 rfl
end
def riseL (hd : Head) (es : List Entry) (c : List Mark) : LogN := ⟨⟨recD hd es, recD hd es⟩, hd, noHead, false, ⟨hd.base, hd.time, es⟩, c, lastB ⟨hd.base, hd.time, es⟩, []⟩
theorem riseJ {hd : Head} {es : List Entry} {c : List Mark} (hh : headOk hd = true) (hb : bookOk ⟨hd.base, hd.time, es⟩ = true) (ho : overL hd.seen es = some c) (hr : Rest ⟨recD hd es, recD hd es⟩) : LogJ (riseL hd es c) := by
 have hn := head_nums hh
 have hix : ∀ j (hj : j < es.length), es[j].index = hd.base + 1 + j := ent_ix hb
 have hlen : es.length ≤ 20 := (book_bd hb).2.2.1
 have hok : logOkF (riseL hd es c) = true := by
  refine log_mk hr.ok hh hb rfl rfl ho ⟨by unfold riseL lastB; simp only; omega, Int.le_refl _⟩ ?_ rfl
  show [] = (partF ⟨hd.base, hd.time, es⟩ (lastB ⟨hd.base, hd.time, es⟩ + 1) 2000).map ackF
  rw [part_none hb]; rfl
 refine ⟨hok, rfl, recD_head hh hb, ?_, fun j hj _ => recD_slot hb hj, fun i h1 h2 => ?_, fun x hx => ?_, fun j hj h1 => ?_, (by intro h; cases h), ?_⟩
 ·show lowH hd.num (cell (recD hd es) (1 - hd.num % 2))
  rw [recD_free hh hb om om fun j hj e => by have := slot_rng es[j].index; omega]
  exact .inl (by simp)
 ·have h1 : hd.base + (es.length : Int) < i := h1
  have h2 : i ≤ hd.base + 20 := h2
  show oldL i (cell (recD hd es) (slotF i))
  have hs := slot_rng i
  rw [recD_free hh hb om om fun j hj e => slot_ne (i := es[j].index) (j := i) (by have := hix j hj; omega) (by have := hix j hj; omega) (by have := hix j hj; omega) e]
  exact .inl (by simp)
 ·have hx : x ∈ ([] : List (Int × List Int)) := hx
  simp at hx
 ·have hj : j < es.length := hj
  have h1 : hd.base + (es.length : Int) < es[j].index := h1
  have := hix j hj
  omega
 ·show ((0 : Nat) : Int) ≤ lastB ⟨hd.base, hd.time, es⟩ - lastB ⟨hd.base, hd.time, es⟩ + (if false = true then 1 else 0)
  simp
theorem rise_eq {t : Two} {hd : Head} {es : List Entry} {c : List Mark} (hk : keptOk t = true) (hi : headIn t = (hd, true)) (hh : headOk hd = true) (hbk : bookInF t hd = ⟨hd.base, hd.time, es⟩) (hb : bookOk ⟨hd.base, hd.time, es⟩ = true) (ho : overL hd.seen es = some c) : risenF t = (riseL hd es c, true) ∧ LogJ (riseL hd es c) := by
 obtain ⟨e1, e2⟩ := rec_run hk hi hh hbk hb
 refine ⟨?_, riseJ hh hb ho e2⟩
 rw [ri_yes (by rw [e1]), e1]
 simp only
 rw [so4 (head_bd hh).2.2.2.2 (by have : es.length ≤ 20 := (book_bd hb).2.2.1; omega) ho]
 rfl
section
variable {n : LogN}
theorem LogJ.fall_slot (h : LogJ n) (G : List Int) {j : Nat} (hj : j < n.book.entries.length) : eorb n.book.entries[j] (cell (fallF n.two.a G false) (slotF n.book.entries[j].index)) := by
 obtain ⟨_, _, _, _, _, hd, _⟩ := h.parts
 have hix := h.ix hj
 have hs := slot_rng n.book.entries[j].index
 rcases Int.lt_or_le n.durable n.book.entries[j].index with h1 | h1
 ·have hold := h.old_at hj h1
  rcases cell_fall hd G (s := slotF n.book.entries[j].index) (r := withSumF (slotRowF n.book.entries[j])) om (fun x hx e => by
   obtain ⟨_, k, hk, e1, e2⟩ := h.w_slot om om hx e
   have hkx := h.ix hk
   obtain rfl : k = j := by omega
   exact e2) with e | e | e
  ·rw [e]; exact .inr hold.s.bad
  ·rw [e]; exact .inl (ent_good hix.2.2)
  ·rw [e]; exact .inr (torn_bad hix.2.2 hold.s)
 ·left
  rw [cell_miss hd _ _ om fun x hx e => ?_, h.ents j hj h1]
  ·exact ent_good hix.2.2
  ·have := (h.w_slot om om hx e).1
   omega
theorem LogJ.fall_sure (h : LogJ n) (G : List Int) {j : Nat} (hj : j < n.book.entries.length) (h1 : n.book.entries[j].index ≤ n.durable) : entIn (cell (fallF n.two.a G false) (slotF n.book.entries[j].index)) = some n.book.entries[j] := by
 obtain ⟨_, _, _, _, _, hd, _⟩ := h.parts
 have hix := h.ix hj
 have hs := slot_rng n.book.entries[j].index
 rw [cell_miss hd _ _ om fun x hx e => ?_, h.ents j hj h1]
 ·exact ent_good hix.2.2
 ·have := (h.w_slot om om hx e).1
  omega
theorem LogJ.fall_free (h : LogJ n) (G : List Int) {i : Int} (h1 : lastB n.book < i) (h2 : i ≤ n.book.base + 20) : badS i (cell (fallF n.two.a G false) (slotF i)) := by
 obtain ⟨_, _, _, _, _, hd, _⟩ := h.parts
 have hdu := log_dur h.ok
 have hs := slot_rng i
 rw [cell_miss hd _ _ om fun x hx e => ?_]
 ·exact (h.olds i om h2).s.bad
 ·obtain ⟨_, k, hk, e1, _⟩ := h.w_slot om h2 hx e
  have := h.ix hk
  unfold lastB at h1
  omega
theorem LogJ.fall_head (h : LogJ n) (G : List Int) : headOn (cell (fallF n.two.a G false) (n.head.num % 2)) = some n.head := by
 obtain ⟨_, hh, _, _, _, hd, _⟩ := h.parts
 have hnum := h.num
 rw [cell_miss hd _ _ om fun x hx e => ?_, h.head]
 ·exact head_good hh
 ·obtain ⟨k1, k2, _⟩ := h.w_head (p := n.head.num % 2) om hx e
  have := (h.next k1).2.1
  omega
theorem LogJ.fall_oth (h : LogJ n) (G : List Int) (nx : Head) (hnx : n.more = true → nx = n.next) : othH n.head nx (cell (fallF n.two.a G false) (1 - n.head.num % 2)) := by
 obtain ⟨_, hh, _, _, _, hd, _⟩ := h.parts
 have hnum := h.num
 cases hm : n.more
 ·rw [cell_miss hd _ _ om fun x hx e => ?_]
  ·exact .inr h.oldh.bad
  ·have := (h.w_head (p := 1 - n.head.num % 2) om hx e).1
   rw [hm] at this; cases this
 ·obtain ⟨n1, n2, n3, n4, n5⟩ := h.next hm
  rw [hnx hm]
  rcases cell_fall hd G (s := 1 - n.head.num % 2) (r := withSumF (headRowF n.next)) om (fun x hx e => (h.w_head (p := 1 - n.head.num % 2) om hx e).2.2) with e | e | e
  ·rw [e]; exact .inr h.oldh.bad
  ·rw [e]; exact .inl (head_good n1)
  ·rw [e]
   refine .inr fun h' he => ?_
   have hlow : lowH n.next.num (cell n.two.a (1 - n.head.num % 2)) := by
    rcases h.oldh with h9 | ⟨h2, k1, k2, k3⟩
    ·exact .inl h9
    ·exact .inr ⟨h2, k1, by omega, k3⟩
   rw [torn_headBad (k := 0) n1 hlow] at he
   cases he
theorem LogJ.fall_two (h : LogJ n) (F : List Int) : bothFallenF n.two F = ⟨fallF n.two.a (half F 0) false, fallF n.two.a (half F 1) false⟩ := by
 rw [bf_yes (keptOk_iff.1 h.parts.1).1, h.same]
theorem LogJ.fall_headIn (h : LogJ n) (F : List Int) : headIn (bothFallenF n.two F) = (n.head, true) ∨ (n.more = true ∧ headIn (bothFallenF n.two F) = (n.next, true)) := by
 have hr := rest_fall h.parts.1 F
 have e := h.fall_two F
 have hnum := h.num
 have run : ∀ nx : Head, nx.num = n.head.num + 1 → (n.more = true → nx = n.next) → headIn (bothFallenF n.two F) = (n.head, true) ∨ headIn (bothFallenF n.two F) = (nx, true) := by
  intro nx h1 h2
  refine head_run (p := n.head.num % 2) (q := 1 - n.head.num % 2) hr rfl om h1 hnum ?_ ?_ ?_ ?_ ?_
  ·rw [e]; exact .inl (h.fall_head _)
  ·rw [e]; exact .inl (h.fall_head _)
  ·rw [e]; exact .inl (h.fall_head _)
  ·rw [e]; exact h.fall_oth _ nx h2
  ·rw [e]; exact h.fall_oth _ nx h2
 cases hm : n.more
 ·rcases run ⟨n.head.num + 1, 0, 0, []⟩ rfl (by rw [hm]; simp) with h1 | h1
  ·exact .inl h1
  ·rcases run ⟨n.head.num + 1, 1, 0, []⟩ rfl (by rw [hm]; simp) with h2 | h2
   ·exact .inl h2
   ·rw [h1] at h2
    simp at h2
 ·rcases run n.next (h.next hm).2.1 (fun _ => rfl) with h1 | h1
  ·exact .inl h1
  ·exact .inr ⟨rfl, h1⟩
theorem LogJ.rise (h : LogJ n) (F : List Int) : ∃ (hd : Head) (es : List Entry) (m : Nat) (c : List Mark), ((hd = n.head ∧ es = n.book.entries) ∨ (n.more = true ∧ hd = n.next ∧ es = n.book.entries.drop (n.next.base - n.book.base).toNat)) ∧
    n.durable ≤ hd.base + m ∧ m ≤ es.length ∧ overL hd.seen (es.take m) = some c ∧ risenF (bothFallenF n.two F) = (riseL hd (es.take m) c, true) ∧ LogJ (riseL hd (es.take m) c) := by
  obtain ⟨hk, hh, hb, he, ht, hdk, h22⟩ := h.parts
  have hdu := log_dur h.ok
  have hr := rest_fall hk F
  have e := h.fall_two F
  have hov := log_seen h.ok
  rcases h.fall_headIn F with hi | ⟨hm, hi⟩
  · have hb' : bookOk ⟨n.head.base, n.head.time, n.book.entries⟩ = true := by rw [← he, ← ht]; exact hb
    obtain ⟨m, h1, h2, h3⟩ := book_run (es := n.book.entries) (m0 := (n.durable - n.head.base).toNat) hr hh hb' hov.1 (by unfold lastB at hdu; omega)
      (fun j hj => by rw [e]; exact ⟨h.fall_slot _ hj, h.fall_slot _ hj⟩)
      (fun j hj hjm => by rw [e]; exact .inl (h.fall_sure _ hj (by have := h.ix hj; omega)))
      (fun hl => by
        rw [e]
        have hx : n.head.base + (n.book.entries.length : Int) + 1 = lastB n.book + 1 := by unfold lastB; omega
        rw [hx]
        exact ⟨h.fall_free _ om (by unfold lastB; omega), h.fall_free _ om (by unfold lastB; omega)⟩)
    obtain ⟨c, hc⟩ := over_prefix hov.1 m
    obtain ⟨r1, r2⟩ := rise_eq hr.ok hi hh h3 (book_take hb' m) hc
    exact ⟨n.head, n.book.entries, m, c, .inl ⟨rfl, rfl⟩, by omega, h2, hc, r1, r2⟩
  · obtain ⟨n1, n2, n3, n4, n5⟩ := h.next hm
    have hx1 : n.book.base ≤ n.next.base := by omega
    have hx2 : n.next.base ≤ lastB n.book := by omega
    have hbo := book_drop hb hx1 hx2
    have hno := (next_over h.ok hx1 hx2).2
    rw [← n5] at hno
    have hnt : timeAtF n.book n.next.base = n.next.time := (congrArg Head.time n5).symm
    rw [hnt] at hbo
    have hel : ∀ j (hj : j < (n.book.entries.drop (n.next.base - n.book.base).toNat).length), (n.next.base - n.book.base).toNat + j < n.book.entries.length := fun j hj => by rw [List.length_drop] at hj; omega
    have hlen : ((n.book.entries.drop (n.next.base - n.book.base).toNat).length : Int) = lastB n.book - n.next.base := by
      rw [List.length_drop]; unfold lastB at hx2 ⊢; omega
    obtain ⟨m, h1, h2, h3⟩ := book_run (es := n.book.entries.drop (n.next.base - n.book.base).toNat) (m0 := (n.durable - n.next.base).toNat) hr n1 hbo hno om
      (fun j hj => by rw [e, drop_get hj]; exact ⟨h.fall_slot _ (hel j hj), h.fall_slot _ (hel j hj)⟩)
      (fun j hj hjm => by rw [e, drop_get hj]; exact .inl (h.fall_sure _ (hel j hj) (by have := h.ix (hel j hj); omega)))
      (fun hl => by
        rw [e]
        have hx : n.next.base + ((n.book.entries.drop (n.next.base - n.book.base).toNat).length : Int) + 1 = lastB n.book + 1 := by omega
        rw [hx]
        rcases Int.lt_or_le (n.book.base + 20) (lastB n.book + 1) with h3 | h3
        · obtain ⟨j, hj, hjx⟩ := h.at (i := lastB n.book + 1 - 20) om om
          have hs : slotF (lastB n.book + 1) = slotF n.book.entries[j].index := by rw [hjx]; unfold slotF; omega
          have hbad : ∀ G, badS (lastB n.book + 1) (cell (fallF n.two.a G false) (slotF (lastB n.book + 1))) := fun G e2 he2 => by
            rw [hs, h.fall_sure G hj om] at he2
            cases he2
            omega
          exact ⟨hbad _, hbad _⟩
        · exact ⟨h.fall_free _ om h3, h.fall_free _ om h3⟩)
    obtain ⟨c, hc⟩ := over_prefix hno m
    obtain ⟨r1, r2⟩ := rise_eq hr.ok hi n1 h3 (book_take hbo m) hc
    exact ⟨n.next, n.book.entries.drop (n.next.base - n.book.base).toNat, m, c, .inr ⟨hm, rfl, rfl⟩, by omega, h2, hc, r1, r2⟩
end
theorem new_rest : Rest (newTwoF 22) := ⟨by kernel_rfl, rfl, rfl⟩
theorem newKept_eq : newKeptF = ⟨⟨(List.replicate 22 ([] : List Int)).set 0 (withSumF (headRowF noHead)), []⟩, ⟨(List.replicate 22 ([] : List Int)).set 0 (withSumF (headRowF noHead)), []⟩⟩ ∧ Rest newKeptF := by
 have h1 : headOk noHead = true := by kernel_rfl
 obtain ⟨e, h2⟩ := mended_rest (s := 0) (row := headRowF noHead) new_rest om (head_sum h1)
 have e2 : newKeptF = mendedF (newTwoF 22) 0 (headRowF noHead) := rfl
 rw [e2, e]
 exact ⟨rfl, h2⟩
theorem newJ : LogJ newLogF := by
 obtain ⟨e, hr⟩ := newKept_eq
 have h1 : headOk noHead = true := by kernel_rfl
 have hb : bookOk ⟨0, 0, []⟩ = true := by kernel_rfl
 have hok : logOkF newLogF = true := log_mk hr.ok h1 hb rfl rfl rfl ⟨by decide, by decide⟩ rfl rfl
 have hc : ∀ s : Int, cell newLogF.two.a s = if (0 : Nat) = s.toNat then withSumF (headRowF noHead) else [] := fun s => by
  show newKeptF.a.kept.getD s.toNat [] = _
  rw [e]
  simp only
  rw [getD_set (by simp)]
  split
  ·rfl
  ·simp only [List.getD_eq_getElem?_getD]
   cases hq : (List.replicate 22 ([] : List Int))[s.toNat]? with
   | none => rfl
   | some r => rw [List.eq_of_mem_replicate (List.mem_of_getElem? hq)]; rfl
 refine ⟨hok, ?_, ?_, ?_, fun j hj _ => ?_, fun i h1 h2 => ?_, fun x hx => ?_, fun j hj _ => ?_, (by intro h; cases h), ?_⟩
 ·show newKeptF.b = newKeptF.a
  rw [e]
 ·rw [hc]; rfl
 ·rw [hc]; exact .inl (by decide)
 ·have hj : j < 0 := hj
  omega
 ·have := slot_rng i
  rw [hc, if_neg om]
  exact .inl (by simp)
 ·have hx : x ∈ newKeptF.a.wait := hx
  rw [e] at hx
  simp at hx
 ·have hj : j < 0 := hj
  omega
 ·show ((newKeptF.a.wait.length : Nat) : Int) ≤ _
  rw [e]
  decide
theorem c_big (l : List Int) : Pure Tryz.prog 4 [one (bytes l)] (bR (decide ((l.length : Int) > 4096))) := by
 refine pure_intro (N := 6) Tryz.func4 rfl rfl rfl rfl (fun H w => ?_)
 refine ev_lenm (t := 0) rfl (fun hL => ?_)
 refine sq (rg (xs rfl rfl (nl (et (sq (rg (xm rfl rfl (xo (q_len_map ttOk rfl rfl) rfl (xb ttOk rfl rfl (xs rfl rfl (nl (et (ev_ret (ret_pure' ttOk rfl rfl ?_))))))))))))))
 rfl
theorem c_below (m : Int) (hm : 1 ≤ m ∧ m ≤ 100000) : Rolls Tryz.prog 54 33 [one (iC m)] (α := Int) (fun x => 0 ≤ x ∧ x < m) (fun x => iR x) := by
 refine rolls_intro (N := 56) Tryz.func33 rfl rfl rfl rfl (fun H w g v0 bn δ0 hsrc => ?_)
 obtain ⟨l, rfl, hr0, hl0, hn0⟩ := id hsrc
 obtain ⟨ok1, ok2, ok3⟩ := δ0.ok
 refine sq (rg (xs rfl rfl (nl (et (sq (rg (xm rfl rfl (xm rfl rfl (xo (q_nilc rfl) rfl (xf ttOk rfl rfl (xl ttOk rfl rfl (xo (q_umul rfl rfl) rfl (xo (q_uadd rfl rfl) rfl (xo (q_nilc rfl) rfl (xf ttOk rfl rfl (xst ttOk rfl rfl (nl (et ?_))))))))))))))))))
 have hb := wrap_u64 (IntKind.u64.wrap (δ0.h * 6364136223846793005) + 1442695040888963407)
 obtain ⟨h9, e9⟩ : ∃ z, z = IntKind.u64.wrap (IntKind.u64.wrap (δ0.h * 6364136223846793005) + 1442695040888963407) := ⟨_, rfl⟩
 rw [← e9] at hb ⊢
 refine sq (rg (xm rfl rfl (xo (q_nilc rfl) rfl (xf ttOk rfl rfl (xl ttOk rfl rfl (xo (q_ushr rfl rfl) rfl (xo (q_uand rfl rfl) rfl (xo (q_cv (k := .u64) (k2 := .i64) kr kr rfl) rfl (xs rfl rfl (nl (et ?_)))))))))))
 have hy := and_bound (h9 / 8589934592) (Int.ediv_nonneg hb.1 om) om
 obtain ⟨y, ey⟩ : ∃ z, z = IntKind.i64.wrap (bits BinOp.and IntKind.u64 (h9 / 8589934592) 16777215) := ⟨_, rfl⟩
 rw [← ey] at hy ⊢
 refine sq (sq (ev_drawq [] mo (rk0 0 rfl (q_move rfl) rfl (rk0 1 rfl (q_nilc rfl) rfl (rk0 2 rfl (q_fieldAddr ttOk rfl) rfl (rk0 3 rfl (q_load ttOk rfl) rfl (rk0 4 rfl (q_move rfl) rfl (rk0 5 rfl (q_nilc rfl) rfl (rk0 6 rfl (q_fieldAddr ttOk rfl) rfl (rk0 7 rfl (q_load_src ttOk rfl rfl rfl rfl rfl hr0) rfl (rk0 8 rfl (q_len_map ttOk rfl rfl) rfl (rk0 9 rfl (q_bin ttOk rfl) rfl (rdk_endq kr (et (ev_cond rfl (fun h1 => ?_) (fun h1 => ?_))))))))))))))))
 ·try have d1 := of_decide_eq_true h1
  have hx := hl0 _ (List.getElem_mem (show δ0.i < l.length by omega))
  have hxw := IntWalk.i64_in (l[δ0.i]'om) om
  refine sq (ev_drawq [] mo (rk0 0 rfl (q_move rfl) rfl (rk0 1 rfl (q_move rfl) rfl (rk0 2 rfl (q_nilc rfl) rfl (rk0 3 rfl (q_fieldAddr ttOk rfl) rfl (rk0 4 rfl (q_load_src ttOk rfl rfl rfl rfl rfl hr0) rfl (rk0 5 rfl (q_move rfl) rfl (rk0 6 rfl (q_nilc rfl) rfl (rk0 7 rfl (q_fieldAddr ttOk rfl) rfl (rk0 8 rfl (q_load ttOk rfl) rfl (rk0 9 rfl (q_ix_map (m := δ0.i) ttOk rfl rfl rfl rfl om) rfl (rk0 10 rfl (q_load ttOk rfl) rfl (rk0 11 rfl (q_cv (k := .u8) (k2 := .i64) kr kr rfl) rfl (rk0 12 rfl (q_ar rfl rfl rfl om) rfl (rk0 13 rfl (q_assign rfl) rfl (rdk_endq kr (et (rg (xm rfl rfl (xm rfl rfl (xo (q_nilc rfl) rfl (xf ttOk rfl rfl (xl ttOk rfl rfl (xa rfl rfl rfl om rfl (xo (q_nilc rfl) rfl (xf ttOk rfl rfl (xst ttOk rfl rfl (nl (et (sq (rg (xm rfl rfl (xm rfl rfl (xo (q_rem_pos rfl rfl om) rfl (xs rfl rfl (nl (et (ev_ret (ret_roll ((y + IntKind.i64.wrap l[δ0.i]) % m) ⟨δ0.i + 1, h9, by omega, hb.1, hb.2⟩ ttOk rfl rfl rfl rfl ?_ ?_)))))))))))))))))))))))))))))))))))))))
  ·simp [RpLe, L2, RcLe]
  ·exact ⟨Int.emod_nonneg _ om, Int.emod_lt_of_pos _ om⟩
 ·try have d1 := of_decide_eq_false h1
  refine ev_skip (et (sq (rg (xm rfl rfl (xm rfl rfl (xo (q_rem_pos rfl rfl om) rfl (xs rfl rfl (nl (et (ev_ret (ret_roll (y % m) ⟨δ0.i, h9, by omega, hb.1, hb.2⟩ ttOk rfl rfl rfl rfl ?_ ?_)))))))))))
  ·simp [RpLe, L2, RcLe]
  ·exact ⟨Int.emod_nonneg _ om, Int.emod_lt_of_pos _ om⟩
theorem c_roll (sd : Int) : MkRoll Tryz.prog 54 5 sd := by
 refine mk_intro (N := 38) Tryz.func5 rfl rfl rfl (fun H w v0 l hr0 hl0 hn0 => ?_)
 refine sq (rg (xs rfl rfl (nl (et (sq (rg (xm rfl rfl (xm rfl rfl (xo (q_umul rfl rfl) rfl (xm rfl rfl (evl_src 10 rfl hr0 (xo (q_len_map ttOk rfl rfl) rfl (xo (q_cv (k := .i64) (k2 := .u64) kr kr rfl) rfl (xo (q_uadd rfl rfl) rfl (xo (q_build ttOk rfl) rfl (evl_e (e_box rfl rfl rfl rfl) (xs rfl rfl (nl (et (sq (sq (ev_src 0 rfl hr0 (rg (xs rfl rfl (nl (et (ev_blk (ev_loop (fun i : Nat × Int => (⟨[(0, .p false [.c (bytes l)]), (5, pbV 15 0), (6, iV i.1)], [(15, 54, [.c (.v v0), .c (iC 0), .c (.v (.int .u64 i.2))])], [], []⟩ : St)) (fun i => i.1 ≤ l.length ∧ 0 ≤ i.2 ∧ i.2 ≤ 18446744073709551615) (fun i => l.length - i.1) (0, IntKind.u64.wrap (IntKind.u64.wrap (sd * 7919) + IntKind.u64.wrap (l.length : Int))) [] (⟨by simp, (wrap_u64 _).1, (wrap_u64 _).2⟩) lei ?_))))))))))))))))))))))))))))
 intro i hp
 obtain ⟨k, h⟩ := i
 have hp : k ≤ l.length ∧ 0 ≤ h ∧ h ≤ 18446744073709551615 := hp
 obtain ⟨p0, p1, p2⟩ := hp
 show Ev _ _ _ _ (⟨[(0, .p false [.c (bytes l)]), (5, pbV 15 0), (6, iV k)], [(15, 54, [.c (.v v0), .c (iC 0), .c (.v (.int .u64 h))])], [], []⟩ : St)
 refine sq (sq (rg (xm rfl rfl (xm rfl rfl (xo (q_len_map ttOk rfl rfl) rfl (xb ttOk rfl rfl (nl (et (ev_cond rfl (fun h1 => ?_) (fun h1 => ?_))))))))))
 ·try have d1 := of_decide_eq_true h1
  refine ev_skip (et (sq (ev_blk (ev_drawq [15] mo (rk0 0 rfl (q_move rfl) rfl (rk0 1 rfl (q_move rfl) rfl (rk0 2 rfl (q_nilc rfl) rfl (rk0 3 rfl (q_fieldAddr ttOk rfl) rfl (rk0 4 rfl (q_load ttOk rfl) rfl (rk0 5 rfl (q_umul rfl rfl) rfl (rk0 6 rfl (q_move rfl) rfl (rk0 7 rfl (q_move rfl) rfl (rk0 8 rfl (q_ix_map (m := k) ttOk rfl rfl rfl rfl om) rfl (rk0 9 rfl (q_load ttOk rfl) rfl (rk0 10 rfl (q_cv (k := .u8) (k2 := .u64) kr kr rfl) rfl (rk0 11 rfl (q_uadd rfl rfl) rfl (rk0 12 rfl (q_uadd rfl rfl) rfl (rk0 13 rfl (q_nilc rfl) rfl (rk0 14 rfl (q_fieldAddr ttOk rfl) rfl (rdk_one 15 kr (rdo_brk rfl rfl trivial (e_store ttOk rfl) (rdb_endq kr (eb (et (rg (xm rfl rfl (xa rfl rfl rfl om rfl (xs rfl rfl (nl (eve_round (k + 1, _) [] ?hp lei))))))))))))))))))))))))))))))
  case hp => exact ⟨⟨by omega, (wrap_u64 _).1, (wrap_u64 _).2⟩, by omega⟩
 ·try have d1 := of_decide_eq_false h1
  refine ev_exit (evx_then (evx_then (evx_hit (et (sq (rg (xm rfl rfl (xs rfl rfl (nl (et (ev_ret ?_)))))))))))
  exact ret_mk (nb := 15) ⟨0, h, by omega, p1, p2⟩ ttOk rfl rfl
theorem find_seq {l : List Mark} (h : SOk l) (c : Int) : 0 ≤ (findM l c).seq ∧ (findM l c).seq ≤ 2000 ∧ 0 ≤ (findM l c).index ∧ (findM l c).index ≤ 2000 := by
 rcases find_noMark h c with ⟨_, e⟩ | ⟨m, _, _, hm, _, e⟩
 ·rw [e]; decide
 ·rw [e]
  simp only [markOk, seqOk, indexOk, inB, Bool.and_eq_true, decide_eq_true_eq] at hm
  omega
@[reducible] def opR5 (o : Ask) : List RC := [.v (.int .i64 o.kind), .v (.int .i64 o.a), .v (.int .i64 o.b), .v (.int .i64 o.c), .v (.int .i64 o.d)]
@[reducible] def askR (a : Ask) : List RC := [.v (.int .i64 a.client), .v (.int .i64 a.seq), .v (.int .i64 a.kind), .v (.int .i64 a.a), .v (.int .i64 a.b), .v (.int .i64 a.c), .v (.int .i64 a.d)]
theorem c_w9Fates (m : Nat) (hm : m ≤ 1000) : Rolls Tryz.prog 54 10 [one (iC m)] (α := List Int) (fun F => F.length = m) (fun F => [one' (intsR 2 F)]) := by
 refine rolls_intro (N := 17) Tryz.func10 rfl rfl rfl rfl (fun H w g v0 bn δ0 hsrc => ?_)
 refine sq (rg (xs rfl rfl (nl (et (sq (rg (evl_e (e_lit ttOk rfl rfl rfl) (xs rfl rfl (nl (et (sq (ev_blk (ev_loop (fun i : Nat × Int × List Int × DS bn => (⟨[(0, pbV 0 0), (1, iV i.2.1), (5, .p false [.rt 101])], [(0, 54, diceA v0 i.2.2.2)], [(101, 2, 1, (i.2.2.1.map fun x => [iC x]))], []⟩ : St)) (fun i => i.2.1 = (m : Int) - i.1 ∧ i.1 ≤ m ∧ i.2.2.1.length = i.1) (fun i => m - i.1) (0, m, [], δ0) [(101, 6)] (⟨by simp, by simp, rfl⟩) ⟨trf, trf, ⟨⟨_, rfl, by rfl⟩, trivial⟩, tre, rfl⟩ ?_)))))))))))))
 intro i hp
 obtain ⟨k, z, F, δ⟩ := i
 have hp : z = (m : Int) - k ∧ k ≤ m ∧ F.length = k := hp
 obtain ⟨p0, p1, p2⟩ := hp
 show Ev _ _ _ _ (⟨[(0, pbV 0 0), (1, iV z), (5, .p false [.rt 101])], [(0, 54, diceA v0 δ)], [(101, 2, 1, (F.map fun x => [iC x]))], []⟩ : St)
 refine sq (sq (rg (xm rfl rfl (xb ttOk rfl rfl (nl (et (ev_cond rfl (fun h1 => ?_) (fun h1 => ?_))))))))
 ·try have d1 := of_decide_eq_true h1
  refine ev_skip (et (sq (ev_blk (rg (xm rfl rfl (xm rfl rfl (evl_roll (nm := 13) (cf rfl) (c_below _ om) rfl rfl hsrc (rs_of rfl) (fun _ => rfl) (fun x2 δ2 r2 => ?_))))))))
  refine rlk rfl rfl rfl ?_
  obtain ⟨r2a, r2b⟩ := r2
  refine evl_e (e_lit ttOk rfl rfl rfl) (evl_e (e_app ttOk rfl rfl rfl rfl rfl rfl rfl (by simp; omega) rfl rfl) (xs rfl rfl (nl (eb (et (rg (xm rfl rfl (xa rfl rfl rfl om rfl (xs rfl rfl (nl (eve_round (k + 1, z - 1, F ++ [x2], δ2) [(101, 15)] ?hp ⟨trf, trf, ⟨⟨_, rfl, by simp⟩, trivial⟩, tre, rfl⟩)))))))))))
  case hp => exact ⟨⟨by dsimp only; omega, by omega, by simp [p2]⟩, by omega⟩
 ·try have d1 := of_decide_eq_false h1
  refine ev_exit (evx_then (evx_then (evx_hit (et (sq (rg (xm rfl rfl (xs rfl rfl (nl (et (ev_ret ?_)))))))))))
  obtain rfl : k = m := by omega
  refine ret_roll F δ ttOk rfl rfl rfl rfl ?_ ?_
  ·simp [RpLe, L2, RcLe]
  ·exact p2
theorem over_seq {B : Int} : ∀ {es : List Entry} {l c : List Mark}, overL l es = some c → (∀ m ∈ l, m.seq ≤ B) → (∀ e ∈ es, e.seq ≤ B) → ∀ m ∈ c, m.seq ≤ B
 | [], l, c, h, h1, _ => by cases h; exact h1
 | e :: es, l, c, h, h1, h2 => by
  unfold overL at h
  split at h
  ·refine over_seq h (fun m hm => ?_) (fun x hx => h2 x (by simp [hx]))
   rcases mem_ins.1 hm with rfl | ⟨hm, _⟩
   ·exact h2 e (by simp)
   ·exact h1 m hm
  ·cases h
structure Lg (k : Nat) (n : LogN) : Prop where
 j : LogJ n
 last : lastB n.book ≤ k
 hs : ∀ m ∈ n.head.seen, m.seq ≤ 9 + k
 es : ∀ e ∈ n.book.entries, e.seq ≤ 9 + k
theorem findM_seq {l : List Mark} {B : Int} (h0 : 0 ≤ B) (h : ∀ m ∈ l, m.seq ≤ B) (c : Int) : (findM l c).seq ≤ B := by
 unfold findM
 cases hf : l.find? fun m => decide (m.client = c) with
 | none => exact h0
 | some m => exact h m (List.mem_of_find?_eq_some hf)
section
variable {n : LogN} {k : Nat}
theorem Lg.ok (h : Lg k n) : logOkF n = true := h.j.ok
theorem Lg.seenOk (h : Lg k n) : Go.Proofs.YtahkjonokeifmaaGreat.seenOk n.seen = true := of_sok (log_seen h.ok).2.2
theorem Lg.seen (h : Lg k n) : ∀ m ∈ n.seen, m.seq ≤ 9 + k := over_seq (log_seen h.ok).1 h.hs h.es
theorem Lg.seq (h : Lg k n) (c : Int) : (findM n.seen c).seq ≤ 9 + k := findM_seq om h.seen c
theorem Lg.mono (h : Lg k n) {k2 : Nat} (hk : k ≤ k2) : Lg k2 n := ⟨h.j, by have := h.last; omega, fun m hm => by have := h.hs m hm; omega, fun m hm => by have := h.es m hm; omega⟩
theorem Lg.base (h : Lg k n) : 0 ≤ n.book.base := (book_bd h.j.parts.2.2.1).1
theorem Lg.len (h : Lg k n) : (n.book.entries.length : Int) ≤ lastB n.book := by
 have := h.base
 unfold lastB; omega
theorem Lg.next_seen (h : Lg k n) (hm : n.more = true) : ∀ m ∈ n.next.seen, m.seq ≤ 9 + k := by
 obtain ⟨n1, n2, n3, n4, n5⟩ := h.j.next hm
 have hd := log_dur h.ok
 have hb := (log_bases h.ok).1
 have ho := (next_over h.ok (x := n.next.base) om om).1
 rw [← n5] at ho
 exact over_seq ho h.hs fun e he => h.es e (List.mem_of_mem_take he)
theorem fallen_two (h : logOkF n = true) (F : List Int) : (fallenLogF n F).two = bothFallenF n.two F := by rw [fl_yes h]
theorem Lg.rise (h : Lg k n) (F : List Int) : Lg k (risenF (fallenLogF n F).two).1 := by
 obtain ⟨hd, es, m, c, h1, h2, h3, h4, h5, h6⟩ := h.j.rise F
 rw [fallen_two h.ok, h5]
 have hl := h.last
 have hdu := log_dur h.ok
 obtain ⟨hk, hh, hb, he, ht, _⟩ := h.j.parts
 refine ⟨h6, ?_, ?_, fun e hm => ?_⟩
 ·show lastB ⟨hd.base, hd.time, es.take m⟩ ≤ k
  unfold lastB at hl hdu ⊢
  simp only [List.length_take]
  rcases h1 with ⟨rfl, rfl⟩ | ⟨hm, rfl, rfl⟩
  ·omega
  ·obtain ⟨n1, n2, n3, n4, n5⟩ := h.j.next hm
   rw [List.length_drop] at h3 ⊢
   omega
 ·show ∀ m ∈ hd.seen, m.seq ≤ 9 + k
  rcases h1 with ⟨rfl, rfl⟩ | ⟨hm, rfl, rfl⟩
  ·exact h.hs
  ·exact h.next_seen hm
 ·have hm : e ∈ es.take m := hm
  have := List.mem_of_mem_take hm
  rcases h1 with ⟨rfl, rfl⟩ | ⟨_, rfl, rfl⟩
  ·exact h.es e this
  ·exact h.es e (List.mem_of_mem_drop this)
theorem Lg.fits (h : Lg k n) {a : Ask} {now : Int} (ha : askOkF a = true) (hn : timeOk now = true) (hk : k < 2000) (hl : n.book.entries.length < 20) : fitsF n.book (entA n a now) = true := by
 have := h.last
 exact entA_fits h.j.parts.2.2.1 ha hn om hl
theorem Lg.takes (h : Lg k n) {a : Ask} {now : Int} (ha : askOkF a = true) (hn : timeOk now = true) (hk : k < 2000) (hl : n.book.entries.length < 20) : takesA n (entA n a now) = true := h.j.takes (h.fits ha hn hk hl)
theorem Lg.fresh (h : Lg k n) {a : Ask} {now : Int} (ha : askOkF a = true) (hn : timeOk now = true) (hk : k < 2000) (hl : n.book.entries.length < 20) (hs : a.seq > (findM n.seen a.client).seq) : freshF n.seen (entA n a now) = true :=
 fresh_of h.ok (fits_iff.1 (h.fits ha hn hk hl)).1 hs rfl
theorem Lg.fresh_ok (h : Lg k n) {a : Ask} (h1 : askerOk a.client = true) (h2 : opOk a.kind a.a a.b a.c a.d = true) (h3 : a.seq = (findM n.seen a.client).seq + 1) (hk : k < 1900) : askOkF a = true ∧ a.seq ≤ 10 + k ∧ a.seq > (findM n.seen a.client).seq := by
 have h4 := h.seq a.client
 have h5 := find_seq (sok_of h.seenOk) a.client
 have h6 : seqOk a.seq = true := inB_iff.2 ⟨by omega, by omega⟩
 exact ⟨by simp only [askOkF, h1, h2, h6, Bool.and_self], by omega, by omega⟩
end
structure Kl (n : LogN) : Prop where
 j : LogJ n
 base : n.book.base = 0
 more : n.more = false
 head : n.head = noHead
 low : ∀ i, n.durable < i → i ≤ 20 → (cell n.two.a (slotF i)).length ≤ 1
 one : cell n.two.a 1 = []
theorem newKl : Kl newLogF := by
 obtain ⟨e, hr⟩ := newKept_eq
 have hc : ∀ s : Int, s.toNat ≠ 0 → cell newLogF.two.a s = [] := fun s hs => by
  show newKeptF.a.kept.getD s.toNat [] = _
  rw [e]
  simp only
  rw [List.getD_eq_getElem?_getD, List.getElem?_set_ne om]
  by_cases h9 : s.toNat < 22
  ·rw [List.getElem?_replicate_of_lt h9]; rfl
  ·rw [List.getElem?_eq_none (by simp; omega)]; rfl
 refine ⟨newJ, rfl, rfl, rfl, fun i h1 h2 => ?_, hc 1 (by decide)⟩
 have := slot_rng i
 rw [hc (slotF i) om]
 simp
section
variable {n : LogN}
theorem Kl.slot (h : Kl n) (G : List Int) {j : Nat} (hj : j < n.book.entries.length) : (cell (fallF n.two.a G false) (slotF n.book.entries[j].index)).length ≤ 11 ∨ cell (fallF n.two.a G false) (slotF n.book.entries[j].index) = withSumF (slotRowF n.book.entries[j]) := by
 obtain ⟨_, _, _, _, _, hd, _⟩ := h.j.parts
 have hix := h.j.ix hj
 have hb := h.base
 have hs := slot_rng n.book.entries[j].index
 rcases Int.lt_or_le n.durable n.book.entries[j].index with h1 | h1
 ·have hold := h.low _ h1 om
  rcases cell_fall hd G (s := slotF n.book.entries[j].index) (r := withSumF (slotRowF n.book.entries[j])) om (fun x hx e => by
   obtain ⟨_, k, hk, e1, e2⟩ := h.j.w_slot om om hx e
   have hkx := h.j.ix hk
   obtain rfl : k = j := by omega
   exact e2) with e | e | e
  ·rw [e]; exact .inl om
  ·rw [e]; exact .inr rfl
  ·rw [e]
   refine .inl ?_
   have h12 : (withSumF (slotRowF n.book.entries[j])).length = 12 := by rw [withSum_yes (slot_sum hix.2.2), List.length_append, slot_len hix.2.2]; rfl
   unfold tornF
   rw [List.length_append, List.length_take, List.length_drop, h12]
   omega
 ·right
  rw [cell_miss hd _ _ om fun x hx e => ?_, h.j.ents j hj h1]
  have := (h.j.w_slot om om hx e).1
  omega
theorem Kl.free (h : Kl n) (G : List Int) {i : Int} (h1 : lastB n.book < i) (h2 : i ≤ 20) : (cell (fallF n.two.a G false) (slotF i)).length ≤ 1 := by
 obtain ⟨_, _, _, _, _, hd, _⟩ := h.j.parts
 have hdu := log_dur h.j.ok
 have hb := h.base
 have hs := slot_rng i
 rw [cell_miss hd _ _ om fun x hx e => ?_]
 ·exact h.low i om h2
 ·obtain ⟨_, k, hk, e1, _⟩ := h.j.w_slot (by unfold lastB at h1; omega) om hx e
  have := h.j.ix hk
  unfold lastB at h1
  omega
theorem Kl.zero (h : Kl n) (G : List Int) : cell (fallF n.two.a G false) 0 = withSumF (headRowF noHead) := by
 obtain ⟨_, _, _, _, _, hd, _⟩ := h.j.parts
 have e0 := h.j.head
 rw [h.head] at e0
 rw [cell_miss hd _ _ om fun x hx e => ?_]
 ·exact e0
 ·obtain ⟨k1, _⟩ := h.j.w_head (p := 0) om hx e
  rw [h.more] at k1; cases k1
end
def rotD (d : Disk) (s p : Nat) (v : Int) : Disk := ⟨d.kept.set s ((d.kept.getD s []).set p v), d.wait⟩
end Go.Proofs.YtahkjonokeifmaaGreat
