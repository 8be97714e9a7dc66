/- Walks of functions of the program, printed by a program of the prover. -/
import Derived.Test.YtahkjonokeifmaaKeF63
import Derived.Test.YtahkjonokeifmaaKeF51
import Derived.Test.YtahkjonokeifmaaKeVL
import Derived.Test.YtahkjonokeifmaaKeVDA
import Derived.LaidEql
import Derived.Stop.Asserts
import Derived.RowKitTokens
import Derived.Test.YtahkjonokeifmaaKeF48
import Derived.Test.YtahkjonokeifmaaKeF43
import Derived.Test.YtahkjonokeifmaaKeF24
namespace Go.Proofs.Ytahkjonokeifmaa
open Go.ChangeShapes Go.WideShapes Go.ChangeAt Go.RowKit
set_option linter.unusedVariables false
set_option linter.unusedSimpArgs false
set_option maxHeartbeats 1000000
set_option maxRecDepth 100000
attribute [local irreducible] EvL Ev EvE Quiet Eff Pure RDk RDb RDo
def oldL (i : Int) (c : List Int) : Prop := c.length ≤ 1 ∨ ∃ e, entryOk e = true ∧ e.index < i ∧ c = withSumF (slotRowF e)
theorem oldL.s {i : Int} {c : List Int} (h : oldL i c) : oldS i c := by
 rcases h with h | ⟨e, h1, h2, h3⟩
 ·exact .inl h
 ·exact .inr ⟨e, h1, by omega, h3⟩
def entW (e : Entry) : Int × List Int := (slotF e.index, withSumF (slotRowF e))
def headW (h : Head) : Int × List Int := (h.num % 2, withSumF (headRowF h))
structure LogJ (n : LogN) : Prop where
 ok : logOkF n = true
 same : n.two.b = n.two.a
 head : cell n.two.a (n.head.num % 2) = withSumF (headRowF n.head)
 oldh : lowH n.head.num (cell n.two.a (1 - n.head.num % 2))
 ents : ∀ j (hj : j < n.book.entries.length), n.book.entries[j].index ≤ n.durable → cell n.two.a (slotF n.book.entries[j].index) = withSumF (slotRowF n.book.entries[j])
 olds : ∀ i, n.durable < i → i ≤ n.book.base + 20 → oldL i (cell n.two.a (slotF i))
 wait : ∀ x ∈ n.two.a.wait, (∃ j, ∃ hj : j < n.book.entries.length, n.durable < n.book.entries[j].index ∧ x = entW n.book.entries[j]) ∨ (n.more = true ∧ x = headW n.next)
 wE : ∀ j (hj : j < n.book.entries.length), n.durable < n.book.entries[j].index → entW n.book.entries[j] ∈ n.two.a.wait
 wH : n.more = true → headW n.next ∈ n.two.a.wait
 len : (n.two.a.wait.length : Int) ≤ lastB n.book - n.durable + (if n.more then 1 else 0)
section
variable {n : LogN}
theorem LogJ.parts (h : LogJ n) : keptOk n.two = true ∧ headOk n.head = true ∧ bookOk n.book = true ∧ n.book.base = n.head.base ∧ n.book.time = n.head.time ∧ diskOk n.two.a = true ∧ n.two.a.kept.length = 22 := by
 obtain ⟨h1, h2, h3, h4, h5⟩ := log_all h.ok
 obtain ⟨k1, k2⟩ := keptOk_iff.1 h1
 exact ⟨h1, h2, h3, h4, h5, (twoOk_both k1).1, k2⟩
theorem LogJ.ix (h : LogJ n) {j : Nat} (hj : j < n.book.entries.length) : n.book.entries[j].index = n.book.base + 1 + j ∧ j < 20 ∧ entryOk n.book.entries[j] = true := by
 obtain ⟨_, _, hb, _⟩ := h.parts
 have hbd := book_bd hb
 exact ⟨ent_ix hb j hj, by omega, ents_ok hbd.2.2.2.2 _ (List.getElem_mem hj)⟩
theorem LogJ.next (h : LogJ n) (hm : n.more = true) : headOk n.next = true ∧ n.next.num = n.head.num + 1 ∧ n.head.base < n.next.base ∧ n.next.base ≤ n.durable ∧ n.next = nextF n n.next.base := by
 obtain ⟨h1, h2, h3, h4⟩ := log_next h.ok hm
 exact ⟨h1, congrArg Head.num h4, h2, h3, h4⟩
theorem LogJ.w_slot (h : LogJ n) {i : Int} (h1 : n.book.base < i) (h2 : i ≤ n.book.base + 20) {x : Int × List Int} (hx : x ∈ n.two.a.wait) (hs : x.1 = slotF i) : n.durable < i ∧ ∃ j, ∃ hj : j < n.book.entries.length, n.book.entries[j].index = i ∧ x.2 = withSumF (slotRowF n.book.entries[j]) := by
 rcases h.wait x hx with ⟨j, hj, hd, rfl⟩ | ⟨hm, rfl⟩
 ·have hix := h.ix hj
  have e : n.book.entries[j].index = i := by
   have hs : slotF n.book.entries[j].index = slotF i := hs
   rcases Decidable.em (n.book.entries[j].index = i) with h9 | h9
   ·exact h9
   ·exact absurd hs (slot_ne h9 om om)
  exact ⟨by omega, j, hj, e, rfl⟩
 ·have := slot_rng i
  have hs : n.next.num % 2 = slotF i := hs
  omega
theorem LogJ.w_head (h : LogJ n) {p : Int} (hp : p = 0 ∨ p = 1) {x : Int × List Int} (hx : x ∈ n.two.a.wait) (hs : x.1 = p) : n.more = true ∧ p = n.next.num % 2 ∧ x.2 = withSumF (headRowF n.next) := by
 rcases h.wait x hx with ⟨j, hj, hd, rfl⟩ | ⟨hm, rfl⟩
 ·have := slot_rng n.book.entries[j].index
  have hs : slotF n.book.entries[j].index = p := hs
  omega
 ·exact ⟨hm, hs.symm, rfl⟩
theorem LogJ.at (h : LogJ n) {i : Int} (h1 : n.book.base < i) (h2 : i ≤ lastB n.book) : ∃ j, ∃ hj : j < n.book.entries.length, n.book.entries[j].index = i := by
 unfold lastB at h2
 refine ⟨(i - n.book.base - 1).toNat, by omega, ?_⟩
 have := h.ix (j := (i - n.book.base - 1).toNat) om
 omega
theorem LogJ.sync_two (h : LogJ n) : bothSyncF n.two = ⟨fallF n.two.a [] true, fallF n.two.a [] true⟩ := by
 obtain ⟨h1, _⟩ := h.parts
 rw [bsync_yes (keptOk_iff.1 h1).1, h.same]
theorem LogJ.sync_slot (h : LogJ n) {j : Nat} (hj : j < n.book.entries.length) : cell (fallF n.two.a [] true) (slotF n.book.entries[j].index) = withSumF (slotRowF n.book.entries[j]) := by
 obtain ⟨_, _, _, _, _, hd, _⟩ := h.parts
 have hix := h.ix hj
 have hs := slot_rng n.book.entries[j].index
 rcases Int.lt_or_le n.durable n.book.entries[j].index with h1 | h1
 ·refine cell_sync hd om (fun x hx e => ?_) ⟨_, h.wE j hj h1, rfl⟩
  obtain ⟨_, k, hk, e1, e2⟩ := h.w_slot om om hx e
  have hkx := h.ix hk
  obtain rfl : k = j := by omega
  exact e2
 ·rw [cell_miss hd _ _ om fun x hx e => ?_]
  ·exact h.ents j hj h1
  ·have := (h.w_slot om om hx e).1
   omega
theorem LogJ.sync_free (h : LogJ n) {i : Int} (h1 : lastB n.book < i) (h2 : i ≤ n.book.base + 20) : cell (fallF n.two.a [] true) (slotF i) = cell n.two.a (slotF i) := by
 obtain ⟨_, _, _, _, _, hd, _⟩ := h.parts
 have hs := slot_rng i
 refine cell_miss hd _ _ om fun x hx e => ?_
 obtain ⟨_, k, hk, e1, _⟩ := h.w_slot (by unfold lastB at h1; omega) h2 hx e
 have := h.ix hk
 unfold lastB at h1
 omega
theorem LogJ.sync_head (h : LogJ n) {p : Int} (hp : p = 0 ∨ p = 1) (h1 : n.more = true → p ≠ n.next.num % 2) : cell (fallF n.two.a [] true) p = cell n.two.a p := by
 obtain ⟨_, _, _, _, _, hd, _⟩ := h.parts
 refine cell_miss hd _ _ om fun x hx e => ?_
 obtain ⟨k1, k2, _⟩ := h.w_head hp hx e
 exact h1 k1 k2
theorem LogJ.sync_next (h : LogJ n) (hm : n.more = true) : cell (fallF n.two.a [] true) (n.next.num % 2) = withSumF (headRowF n.next) := by
 obtain ⟨_, _, _, _, _, hd, _⟩ := h.parts
 refine cell_sync hd om (fun x hx e => ?_) ⟨_, h.wH hm, rfl⟩
 exact (h.w_head om hx e).2.2
theorem LogJ.num (h : LogJ n) : 0 ≤ n.head.num := by
 obtain ⟨_, hh, _⟩ := h.parts
 exact (head_nums hh).1.1
theorem drop_get {α : Type} {l : List α} {k j : Nat} (hj : j < (l.drop k).length) : (l.drop k)[j] = l[k + j]'(by rw [List.length_drop] at hj; omega) := by simp
theorem LogJ.sync (h : LogJ n) : LogJ (syncedF n).1 := by
 have hso := sync_ok h.ok
 obtain ⟨hk, hh, hb, he, ht, hd, h22⟩ := h.parts
 have hdu := log_dur h.ok
 have hnum := h.num
 cases hm : n.more
 ·rw [sy_less h.ok hm] at hso ⊢
  rw [h.sync_two] at hso ⊢
  refine ⟨hso, rfl, ?_, ?_, fun j hj _ => h.sync_slot hj, fun i h1 h2 => ?_, ?_, fun j hj h1 => ?_, (fun h1 => by rw [hm] at h1; cases h1), ?_⟩
  ·exact (h.sync_head (p := n.head.num % 2) om (by rw [hm]; simp)).trans h.head
  ·have e := h.sync_head (p := 1 - n.head.num % 2) om (by rw [hm]; simp)
   show lowH n.head.num (cell (fallF n.two.a [] true) (1 - n.head.num % 2))
   rw [e]; exact h.oldh
  ·have h1 : lastB n.book < i := h1
   have h2 : i ≤ n.book.base + 20 := h2
   show oldL i (cell (fallF n.two.a [] true) (slotF i))
   rw [h.sync_free h1 h2]
   exact h.olds i om h2
  ·intro x hx
   have hx : x ∈ (fallF n.two.a [] true).wait := hx
   rw [fall_yes hd] at hx
   simp at hx
  ·have hj : j < n.book.entries.length := hj
   have h1 : lastB n.book < n.book.entries[j].index := h1
   have := h.ix hj
   unfold lastB at h1
   omega
  ·show ((fallF n.two.a [] true).wait.length : Int) ≤ lastB n.book - lastB n.book + _
   rw [fall_yes hd, hm]
   simp
 ·obtain ⟨n1, n2, n3, n4, n5⟩ := h.next hm
  have hx1 : n.book.base ≤ n.next.base := by omega
  have hx2 : n.next.base ≤ lastB n.book := by omega
  rw [sy_more h.ok hm] at hso ⊢
  rw [h.sync_two] at hso ⊢
  rw [tr_yes hb (inB_iff.2 ⟨hx1, hx2⟩)] at hso ⊢
  have hk9 : ((n.next.base - n.book.base).toNat : Int) = n.next.base - n.book.base := by omega
  refine ⟨hso, rfl, h.sync_next hm, ?_, fun j hj _ => ?_, fun i h1 h2 => ?_, ?_, fun j hj h1 => ?_, (by intro h1; cases h1), ?_⟩
  ·show lowH n.next.num (cell (fallF n.two.a [] true) (1 - n.next.num % 2))
   have e1 : 1 - n.next.num % 2 = n.head.num % 2 := by omega
   rw [e1, h.sync_head om (fun _ => by omega), h.head]
   exact .inr ⟨n.head, hh, by omega, rfl⟩
  ·have hj : j < (n.book.entries.drop (n.next.base - n.book.base).toNat).length := hj
   show cell (fallF n.two.a [] true) (slotF ((n.book.entries.drop (n.next.base - n.book.base).toNat)[j]).index) = withSumF (slotRowF ((n.book.entries.drop (n.next.base - n.book.base).toNat)[j]))
   rw [drop_get hj]
   exact h.sync_slot _
  ·have h1 : lastB n.book < i := h1
   have h2 : i ≤ n.next.base + 20 := h2
   show oldL i (cell (fallF n.two.a [] true) (slotF i))
   rcases Int.lt_or_le (n.book.base + 20) i with h3 | h3
   ·obtain ⟨j, hj, hjx⟩ := h.at (i := i - 20) om om
    have hs : slotF i = slotF n.book.entries[j].index := by rw [hjx]; unfold slotF; omega
    rw [hs, h.sync_slot hj]
    exact .inr ⟨_, (h.ix hj).2.2, by omega, rfl⟩
   ·rw [h.sync_free h1 h3]
    exact h.olds i om h3
  ·intro x hx
   have hx : x ∈ (fallF n.two.a [] true).wait := hx
   rw [fall_yes hd] at hx
   simp at hx
  ·have hj : j < (n.book.entries.drop (n.next.base - n.book.base).toNat).length := hj
   have h1 : lastB n.book < ((n.book.entries.drop (n.next.base - n.book.base).toNat)[j]).index := h1
   rw [drop_get hj] at h1
   rw [List.length_drop] at hj
   have := h.ix (j := (n.next.base - n.book.base).toNat + j) om
   unfold lastB at h1
   omega
  ·show ((fallF n.two.a [] true).wait.length : Int) ≤ lastB (⟨n.next.base, _, n.book.entries.drop (n.next.base - n.book.base).toNat⟩ : Book) - lastB n.book + _
   rw [fall_yes hd]
   unfold lastB at hx2 ⊢
   simp only [List.length_drop, List.length_nil]
   simp
   omega
theorem LogJ.wrote (h : LogJ n) {s : Int} {row : List Int} (hs : 0 ≤ s ∧ s < 22) (hr : canSum row = true) : bothWroteF n.two s row = (⟨⟨n.two.a.kept, n.two.a.wait ++ [(s, withSumF row)]⟩, ⟨n.two.a.kept, n.two.a.wait ++ [(s, withSumF row)]⟩⟩, true) ∧ keptOk ⟨⟨n.two.a.kept, n.two.a.wait ++ [(s, withSumF row)]⟩, ⟨n.two.a.kept, n.two.a.wait ++ [(s, withSumF row)]⟩⟩ = true := by
 obtain ⟨hk, hh, hb, he, ht, hd, h22⟩ := h.parts
 have hk2 := keptOk_iff.1 hk
 have hdu := log_dur h.ok
 have hbd := book_bd hb
 have hlen := h.len
 have hl : n.two.a.wait.length < 60 := by
  unfold lastB at hlen hdu
  split at hlen <;> omega
 have hb := both_yes2 (s := s) hk2.1 om hr hl (by rw [h.same]; exact hl)
 rw [h.same] at hb
 have hok := both_ok (x := s) (row := row) hk2.1
 rw [hb] at hok
 exact ⟨hb, keptOk_iff.2 ⟨hok, h22⟩⟩
theorem LogJ.ask_two (h : LogJ n) {e : Entry} (he : entryOk e = true) : keptEntryF n.two e = (⟨⟨n.two.a.kept, n.two.a.wait ++ [entW e]⟩, ⟨n.two.a.kept, n.two.a.wait ++ [entW e]⟩⟩, true) ∧ keptOk ⟨⟨n.two.a.kept, n.two.a.wait ++ [entW e]⟩, ⟨n.two.a.kept, n.two.a.wait ++ [entW e]⟩⟩ = true := by
 have hs := slot_rng e.index
 obtain ⟨h1, h2⟩ := h.wrote (s := slotF e.index) om (slot_sum he)
 rw [ke_yes h.parts.1 he]
 exact ⟨h1, h2⟩
theorem LogJ.takes (h : LogJ n) {e : Entry} (hf : fitsF n.book e = true) : takesA n e = true := by
 unfold takesA
 rw [hf, (h.ask_two (fits_iff.1 hf).1).1]
 rfl
theorem LogJ.ask (h : LogJ n) {e : Entry} (hf : fitsF n.book e = true) (hfr : freshF n.seen e = true) : LogJ (withE n e) := by
 obtain ⟨f1, f2, f3, f4⟩ := fits_iff.1 hf
 obtain ⟨k1, k2⟩ := h.ask_two f1
 have hdu := log_dur h.ok
 have hok := ask_ok h.ok hf hfr (by rw [k1]) (by rw [k1]; exact k2)
 have hw : (withE n e).two = ⟨⟨n.two.a.kept, n.two.a.wait ++ [entW e]⟩, ⟨n.two.a.kept, n.two.a.wait ++ [entW e]⟩⟩ := by unfold withE; rw [k1]
 have hes : (withE n e).book.entries = n.book.entries ++ [e] := rfl
 have hget : ∀ j (hj : j < n.book.entries.length), ((withE n e).book.entries)[j]'(by rw [hes]; simp; omega) = n.book.entries[j] := fun j hj => by
  simp only [hes]
  rw [List.getElem_append_left hj]
 have hlast : ((withE n e).book.entries)[n.book.entries.length]'(by rw [hes]; simp) = e := by simp [hes]
 have hcase : ∀ j (hj : j < (withE n e).book.entries.length), (∃ hj2 : j < n.book.entries.length, ((withE n e).book.entries)[j] = n.book.entries[j]) ∨ (j = n.book.entries.length ∧ ((withE n e).book.entries)[j] = e) := fun j hj => by
  rcases Nat.lt_or_ge j n.book.entries.length with h9 | h9
  ·exact .inl ⟨h9, hget j h9⟩
  ·have : j = n.book.entries.length := by rw [hes] at hj; simp at hj; omega
   subst this
   exact .inr ⟨rfl, hlast⟩
 have hca : ∀ s, cell (withE n e).two.a s = cell n.two.a s := fun s => by rw [hw]; rfl
 have hwa : (withE n e).two.a.wait = n.two.a.wait ++ [entW e] := by rw [hw]
 refine ⟨hok, by rw [hw], by rw [hca]; exact h.head, by rw [hca]; exact h.oldh, fun j hj hd => ?_, fun i h1 h2 => ?_, fun x hx => ?_, fun j hj hd => ?_, fun hm => ?_, ?_⟩
 ·rw [hca]
  have hd : ((withE n e).book.entries)[j].index ≤ n.durable := hd
  rcases hcase j hj with ⟨hj2, e2⟩ | ⟨rfl, e2⟩
  ·rw [e2] at hd ⊢; exact h.ents j hj2 hd
  ·rw [e2] at hd; omega
 ·rw [hca]; exact h.olds i h1 h2
 ·rw [hwa] at hx
  rcases List.mem_append.1 hx with hx | hx
  ·rcases h.wait x hx with ⟨j, hj, h1, h2⟩ | h9
   ·refine .inl ⟨j, by rw [hes]; simp; omega, ?_⟩
    rw [hget j hj]
    exact ⟨h1, h2⟩
   ·exact .inr h9
  ·refine .inl ⟨n.book.entries.length, by rw [hes]; simp, ?_⟩
   rw [hlast, List.mem_singleton.1 hx]
   exact ⟨by show n.durable < e.index; omega, rfl⟩
 ·rw [hwa]
  have hd : n.durable < ((withE n e).book.entries)[j].index := hd
  rcases hcase j hj with ⟨hj2, e2⟩ | ⟨rfl, e2⟩
  ·rw [e2] at hd ⊢; exact List.mem_append_left _ (h.wE j hj2 hd)
  ·rw [e2]; exact List.mem_append_right _ (by simp)
 ·rw [hwa]; exact List.mem_append_left _ (h.wH hm)
 ·have hl := h.len
  have e1 : lastB (withE n e).book = lastB n.book + 1 := by simp only [lastB, hes, List.length_append, List.length_singleton]; show n.book.base + _ = _; omega
  rw [hwa, e1]
  show ((n.two.a.wait ++ [entW e]).length : Int) ≤ lastB n.book + 1 - n.durable + (if n.more then 1 else 0)
  simp only [List.length_append, List.length_singleton]
  omega
end
section
variable {n : LogN}
theorem LogJ.fall_sure (h : LogJ n) (G : List Int) {j : Nat} (hj : j < n.book.entries.length) (h1 : n.book.entries[j].index ≤ n.durable) : entIn (cell (fallF n.two.a G false) (slotF n.book.entries[j].index)) = some n.book.entries[j] := by
 obtain ⟨_, _, _, _, _, hd, _⟩ := h.parts
 have hix := h.ix hj
 have hs := slot_rng n.book.entries[j].index
 rw [cell_miss hd _ _ om fun x hx e => ?_, h.ents j hj h1]
 ·exact ent_good hix.2.2
 ·have := (h.w_slot om om hx e).1
  omega
theorem LogJ.fall_two (h : LogJ n) (F : List Int) : bothFallenF n.two F = ⟨fallF n.two.a (half F 0) false, fallF n.two.a (half F 1) false⟩ := by
 rw [bf_yes (keptOk_iff.1 h.parts.1).1, h.same]
end
theorem new_rest : Rest (newTwoF 22) := ⟨by kernel_rfl, rfl, rfl⟩
theorem newKept_eq : newKeptF = ⟨⟨(List.replicate 22 ([] : List Int)).set 0 (withSumF (headRowF noHead)), []⟩, ⟨(List.replicate 22 ([] : List Int)).set 0 (withSumF (headRowF noHead)), []⟩⟩ ∧ Rest newKeptF := by
 have h1 : headOk noHead = true := by kernel_rfl
 obtain ⟨e, h2⟩ := mended_rest (s := 0) (row := headRowF noHead) new_rest om (head_sum h1)
 have e2 : newKeptF = mendedF (newTwoF 22) 0 (headRowF noHead) := rfl
 rw [e2, e]
 exact ⟨rfl, h2⟩
theorem newJ : LogJ newLogF := by
 obtain ⟨e, hr⟩ := newKept_eq
 have h1 : headOk noHead = true := by kernel_rfl
 have hb : bookOk ⟨0, 0, []⟩ = true := by kernel_rfl
 have hok : logOkF newLogF = true := log_mk hr.ok h1 hb rfl rfl rfl ⟨by decide, by decide⟩ rfl rfl
 have hc : ∀ s : Int, cell newLogF.two.a s = if (0 : Nat) = s.toNat then withSumF (headRowF noHead) else [] := fun s => by
  show newKeptF.a.kept.getD s.toNat [] = _
  rw [e]
  simp only
  rw [getD_set (by simp)]
  split
  ·rfl
  ·simp only [List.getD_eq_getElem?_getD]
   cases hq : (List.replicate 22 ([] : List Int))[s.toNat]? with
   | none => rfl
   | some r => rw [List.eq_of_mem_replicate (List.mem_of_getElem? hq)]; rfl
 refine ⟨hok, ?_, ?_, ?_, fun j hj _ => ?_, fun i h1 h2 => ?_, fun x hx => ?_, fun j hj _ => ?_, (by intro h; cases h), ?_⟩
 ·show newKeptF.b = newKeptF.a
  rw [e]
 ·rw [hc]; rfl
 ·rw [hc]; exact .inl (by decide)
 ·have hj : j < 0 := hj
  omega
 ·have := slot_rng i
  rw [hc, if_neg om]
  exact .inl (by simp)
 ·have hx : x ∈ newKeptF.a.wait := hx
  rw [e] at hx
  simp at hx
 ·have hj : j < 0 := hj
  omega
 ·show ((newKeptF.a.wait.length : Nat) : Int) ≤ _
  rw [e]
  decide
theorem c_big (l : List Int) : Pure Try.prog 4 [one (bytes l)] (bR (decide ((l.length : Int) > 4096))) := by
 refine pure_intro (N := 6) Try.func4 rfl rfl rfl rfl (fun H w => ?_)
 refine ev_lenm (t := 0) rfl (fun hL => ?_)
 refine sq (rg (xs rfl rfl (nl (et (sq (rg (xm rfl rfl (xo (q_len_map ttOk rfl rfl) rfl (xb ttOk rfl rfl (xs rfl rfl (nl (et (ev_ret (ret_pure' ttOk rfl rfl ?_))))))))))))))
 rfl
theorem c_below (m : Int) (hm : 1 ≤ m ∧ m ≤ 100000) : Rolls Try.prog 55 7 [one (iC m)] (α := Int) (fun x => 0 ≤ x ∧ x < m) (fun x => iR x) := by
 refine rolls_intro (N := 56) Try.func7 rfl rfl rfl rfl (fun H w g v0 bn δ0 hsrc => ?_)
 obtain ⟨l, rfl, hr0, hl0, hn0⟩ := id hsrc
 obtain ⟨ok1, ok2, ok3⟩ := δ0.ok
 refine sq (rg (xs rfl rfl (nl (et (sq (rg (xm rfl rfl (xm rfl rfl (xo (q_nilc rfl) rfl (xf ttOk rfl rfl (xl ttOk rfl rfl (xo (q_umul rfl rfl) rfl (xo (q_uadd rfl rfl) rfl (xo (q_nilc rfl) rfl (xf ttOk rfl rfl (xst ttOk rfl rfl (nl (et ?_))))))))))))))))))
 have hb := wrap_u64 (IntKind.u64.wrap (δ0.h * 6364136223846793005) + 1442695040888963407)
 obtain ⟨h9, e9⟩ : ∃ z, z = IntKind.u64.wrap (IntKind.u64.wrap (δ0.h * 6364136223846793005) + 1442695040888963407) := ⟨_, rfl⟩
 rw [← e9] at hb ⊢
 refine sq (rg (xm rfl rfl (xo (q_nilc rfl) rfl (xf ttOk rfl rfl (xl ttOk rfl rfl (xo (q_ushr rfl rfl) rfl (xo (q_uand rfl rfl) rfl (xo (q_cv (k := .u64) (k2 := .i64) kr kr rfl) rfl (xs rfl rfl (nl (et ?_)))))))))))
 have hy := and_bound (h9 / 8589934592) (Int.ediv_nonneg hb.1 om) om
 obtain ⟨y, ey⟩ : ∃ z, z = IntKind.i64.wrap (bits BinOp.and IntKind.u64 (h9 / 8589934592) 16777215) := ⟨_, rfl⟩
 rw [← ey] at hy ⊢
 refine sq (sq (ev_drawq [] mo (rk0 0 rfl (q_move rfl) rfl (rk0 1 rfl (q_nilc rfl) rfl (rk0 2 rfl (q_fieldAddr ttOk rfl) rfl (rk0 3 rfl (q_load ttOk rfl) rfl (rk0 4 rfl (q_move rfl) rfl (rk0 5 rfl (q_nilc rfl) rfl (rk0 6 rfl (q_fieldAddr ttOk rfl) rfl (rk0 7 rfl (q_load_src ttOk rfl rfl rfl rfl rfl hr0) rfl (rk0 8 rfl (q_len_map ttOk rfl rfl) rfl (rk0 9 rfl (q_bin ttOk rfl) rfl (rdk_endq kr (et (ev_cond rfl (fun h1 => ?_) (fun h1 => ?_))))))))))))))))
 ·try have d1 := of_decide_eq_true h1
  have hx := hl0 _ (List.getElem_mem (show δ0.i < l.length by omega))
  have hxw := IntWalk.i64_in (l[δ0.i]'om) om
  refine sq (ev_drawq [] mo (rk0 0 rfl (q_move rfl) rfl (rk0 1 rfl (q_move rfl) rfl (rk0 2 rfl (q_nilc rfl) rfl (rk0 3 rfl (q_fieldAddr ttOk rfl) rfl (rk0 4 rfl (q_load_src ttOk rfl rfl rfl rfl rfl hr0) rfl (rk0 5 rfl (q_move rfl) rfl (rk0 6 rfl (q_nilc rfl) rfl (rk0 7 rfl (q_fieldAddr ttOk rfl) rfl (rk0 8 rfl (q_load ttOk rfl) rfl (rk0 9 rfl (q_ix_map (m := δ0.i) ttOk rfl rfl rfl rfl om) rfl (rk0 10 rfl (q_load ttOk rfl) rfl (rk0 11 rfl (q_cv (k := .u8) (k2 := .i64) kr kr rfl) rfl (rk0 12 rfl (q_ar rfl rfl rfl om) rfl (rk0 13 rfl (q_assign rfl) rfl (rdk_endq kr (et (rg (xm rfl rfl (xm rfl rfl (xo (q_nilc rfl) rfl (xf ttOk rfl rfl (xl ttOk rfl rfl (xa rfl rfl rfl om rfl (xo (q_nilc rfl) rfl (xf ttOk rfl rfl (xst ttOk rfl rfl (nl (et (sq (rg (xm rfl rfl (xm rfl rfl (xo (q_rem_pos rfl rfl om) rfl (xs rfl rfl (nl (et (ev_ret (ret_roll ((y + IntKind.i64.wrap l[δ0.i]) % m) ⟨δ0.i + 1, h9, by omega, hb.1, hb.2⟩ ttOk rfl rfl rfl rfl ?_ ?_)))))))))))))))))))))))))))))))))))))))
  ·simp [RpLe, L2, RcLe]
  ·exact ⟨Int.emod_nonneg _ om, Int.emod_lt_of_pos _ om⟩
 ·try have d1 := of_decide_eq_false h1
  refine ev_skip (et (sq (rg (xm rfl rfl (xm rfl rfl (xo (q_rem_pos rfl rfl om) rfl (xs rfl rfl (nl (et (ev_ret (ret_roll (y % m) ⟨δ0.i, h9, by omega, hb.1, hb.2⟩ ttOk rfl rfl rfl rfl ?_ ?_)))))))))))
  ·simp [RpLe, L2, RcLe]
  ·exact ⟨Int.emod_nonneg _ om, Int.emod_lt_of_pos _ om⟩
theorem c_roll (sd : Int) : MkRoll Try.prog 55 5 sd := by
 refine mk_intro (N := 38) Try.func5 rfl rfl rfl (fun H w v0 l hr0 hl0 hn0 => ?_)
 refine sq (rg (xs rfl rfl (nl (et (sq (rg (xm rfl rfl (xm rfl rfl (xo (q_umul rfl rfl) rfl (xm rfl rfl (evl_src 10 rfl hr0 (xo (q_len_map ttOk rfl rfl) rfl (xo (q_cv (k := .i64) (k2 := .u64) kr kr rfl) rfl (xo (q_uadd rfl rfl) rfl (xo (q_build ttOk rfl) rfl (evl_e (e_box rfl rfl rfl rfl) (xs rfl rfl (nl (et (sq (sq (ev_src 0 rfl hr0 (rg (xs rfl rfl (nl (et (ev_blk (ev_loop (fun i : Nat × Int => (⟨[(0, .p false [.c (bytes l)]), (5, pbV 15 0), (6, iV i.1)], [(15, 55, [.c (.v v0), .c (iC 0), .c (.v (.int .u64 i.2))])], [], []⟩ : St)) (fun i => i.1 ≤ l.length ∧ 0 ≤ i.2 ∧ i.2 ≤ 18446744073709551615) (fun i => l.length - i.1) (0, IntKind.u64.wrap (IntKind.u64.wrap (sd * 7919) + IntKind.u64.wrap (l.length : Int))) [] (⟨by simp, (wrap_u64 _).1, (wrap_u64 _).2⟩) lei ?_))))))))))))))))))))))))))))
 intro i hp
 obtain ⟨k, h⟩ := i
 have hp : k ≤ l.length ∧ 0 ≤ h ∧ h ≤ 18446744073709551615 := hp
 obtain ⟨p0, p1, p2⟩ := hp
 show Ev _ _ _ _ (⟨[(0, .p false [.c (bytes l)]), (5, pbV 15 0), (6, iV k)], [(15, 55, [.c (.v v0), .c (iC 0), .c (.v (.int .u64 h))])], [], []⟩ : St)
 refine sq (sq (rg (xm rfl rfl (xm rfl rfl (xo (q_len_map ttOk rfl rfl) rfl (xb ttOk rfl rfl (nl (et (ev_cond rfl (fun h1 => ?_) (fun h1 => ?_))))))))))
 ·try have d1 := of_decide_eq_true h1
  refine ev_skip (et (sq (ev_blk (ev_drawq [15] mo (rk0 0 rfl (q_move rfl) rfl (rk0 1 rfl (q_move rfl) rfl (rk0 2 rfl (q_nilc rfl) rfl (rk0 3 rfl (q_fieldAddr ttOk rfl) rfl (rk0 4 rfl (q_load ttOk rfl) rfl (rk0 5 rfl (q_umul rfl rfl) rfl (rk0 6 rfl (q_move rfl) rfl (rk0 7 rfl (q_move rfl) rfl (rk0 8 rfl (q_ix_map (m := k) ttOk rfl rfl rfl rfl om) rfl (rk0 9 rfl (q_load ttOk rfl) rfl (rk0 10 rfl (q_cv (k := .u8) (k2 := .u64) kr kr rfl) rfl (rk0 11 rfl (q_uadd rfl rfl) rfl (rk0 12 rfl (q_uadd rfl rfl) rfl (rk0 13 rfl (q_nilc rfl) rfl (rk0 14 rfl (q_fieldAddr ttOk rfl) rfl (rdk_one 15 kr (rdo_brk rfl rfl trivial (e_store ttOk rfl) (rdb_endq kr (eb (et (rg (xm rfl rfl (xa rfl rfl rfl om rfl (xs rfl rfl (nl (eve_round (k + 1, _) [] ?hp lei))))))))))))))))))))))))))))))
  case hp => exact ⟨⟨by omega, (wrap_u64 _).1, (wrap_u64 _).2⟩, by omega⟩
 ·try have d1 := of_decide_eq_false h1
  refine ev_exit (evx_then (evx_then (evx_hit (et (sq (rg (xm rfl rfl (xs rfl rfl (nl (et (ev_ret ?_)))))))))))
  exact ret_mk (nb := 15) ⟨0, h, by omega, p1, p2⟩ ttOk rfl rfl
theorem find_seq {l : List Mark} (h : SOk l) (c : Int) : 0 ≤ (findM l c).seq ∧ (findM l c).seq ≤ 2000 ∧ 0 ≤ (findM l c).index ∧ (findM l c).index ≤ 2000 := by
 rcases find_noMark h c with ⟨_, e⟩ | ⟨m, _, _, hm, _, e⟩
 ·rw [e]; decide
 ·rw [e]
  simp only [markOk, seqOk, indexOk, inB, Bool.and_eq_true, decide_eq_true_eq] at hm
  omega
@[reducible] def opR5 (o : Ask) : List RC := [.v (.int .i64 o.kind), .v (.int .i64 o.a), .v (.int .i64 o.b), .v (.int .i64 o.c), .v (.int .i64 o.d)]
@[reducible] def askR (a : Ask) : List RC := [.v (.int .i64 a.client), .v (.int .i64 a.seq), .v (.int .i64 a.kind), .v (.int .i64 a.a), .v (.int .i64 a.b), .v (.int .i64 a.c), .v (.int .i64 a.d)]
theorem op_put {a b : Int} (ha : 0 ≤ a ∧ a < 10) (hb : 0 ≤ b ∧ b < 1000) : opOk 1 a b 0 0 = true := by
 simp only [opOk, inB]; simp; omega
theorem op_cut {a : Int} (ha : 0 ≤ a ∧ a < 10) : opOk 2 a 0 0 0 = true := by
 simp only [opOk, inB]; simp; omega
theorem op_job {a b c d : Int} (ha : 0 ≤ a ∧ a < 20) (hb : 0 ≤ b ∧ b < 90) (hc : 0 ≤ c ∧ c < 10) (hd : 0 ≤ d ∧ d < 1000) : opOk 3 (1 + a) b c d = true := by
 simp only [opOk, inB, timeOk]; simp; omega
theorem op_fire {a b : Int} (ha : 0 ≤ a ∧ a < 20) (hb : 0 ≤ b ∧ b < 5) : opOk 4 (1 + a) b 0 0 = true := by
 simp only [opOk, inB]; simp; omega
theorem op_lease {a : Int} (ha : 0 ≤ a ∧ a < 40) : opOk 5 (1 + a) 0 0 0 = true := by
 simp only [opOk, inB]; simp; omega
theorem c_w9Op  : Rolls Try.prog 55 18 [] (α := Ask) (fun o => opOk o.kind o.a o.b o.c o.d = true) (fun o => [many' (opR5 o)]) := by
 refine rolls_intro (N := 41) Try.func18 rfl rfl rfl rfl (fun H w g v0 bn δ0 hsrc => ?_)
 refine sq (rg (evl_e (e_alloc ttOk rfl rfl rfl rfl) (nl (et (sq (sq (rg (xm rfl rfl (evl_roll (nm := 4) (cf rfl) (c_below _ om) rfl rfl hsrc (rs_of rfl) (fun _ => rfl) (fun x1 δ1 r1 => ?_))))))))))
 refine rlk rfl rfl rfl ?_
 obtain ⟨r1a, r1b⟩ := r1
 refine nl (et (ev_blk (sq (rg (xb ttOk rfl rfl (xs rfl rfl (nl (et (ev_cond rfl (fun h2 => ?_) (fun h2 => ?_))))))))))
 ·try have d2 := of_decide_eq_true h2
  refine sq (rg (xm rfl rfl (evl_roll (nm := 8) (cf rfl) (c_below _ om) rfl rfl hsrc (rs_of rfl) (fun _ => rfl) (fun x3 δ3 r3 => ?_))))
  refine rlk rfl rfl rfl ?_
  obtain ⟨r3a, r3b⟩ := r3
  refine xo (q_build ttOk rfl) rfl (xst ttOk rfl rfl (nl (et (ev_ret (evr_blk (evr_then (ret_roll ⟨0, 0, 2, x3, 0, 0, 0⟩ δ3 ttOk rfl rfl rfl rfl ?_ ?_)))))))
  ·simp [RpLe, L2, RcLe]
  ·exact op_cut ⟨r3a, r3b⟩
 ·try have d2 := of_decide_eq_false h2
  refine sq (rg (xb ttOk rfl rfl (xs rfl rfl (nl (et (ev_cond rfl (fun h4 => ?_) (fun h4 => ?_)))))))
  ·try have d4 := of_decide_eq_true h4
   refine sq (rg (xm rfl rfl (evl_roll (nm := 13) (cf rfl) (c_below _ om) rfl rfl hsrc (rs_of rfl) (fun _ => rfl) (fun x5 δ5 r5 => ?_))))
   refine rlk rfl rfl rfl ?_
   obtain ⟨r5a, r5b⟩ := r5
   refine xa rfl rfl rfl om rfl (xm rfl rfl (evl_roll (nm := 16) (cf rfl) (c_below _ om) rfl rfl hsrc (rs_of rfl) (fun _ => rfl) (fun x6 δ6 r6 => ?_)))
   refine rlk rfl rfl rfl ?_
   obtain ⟨r6a, r6b⟩ := r6
   refine xm rfl rfl (evl_roll (nm := 18) (cf rfl) (c_below _ om) rfl rfl hsrc (rs_of rfl) (fun _ => rfl) (fun x7 δ7 r7 => ?_))
   refine rlk rfl rfl rfl ?_
   obtain ⟨r7a, r7b⟩ := r7
   refine xm rfl rfl (evl_roll (nm := 20) (cf rfl) (c_below _ om) rfl rfl hsrc (rs_of rfl) (fun _ => rfl) (fun x8 δ8 r8 => ?_))
   refine rlk rfl rfl rfl ?_
   obtain ⟨r8a, r8b⟩ := r8
   refine xo (q_build ttOk rfl) rfl (xst ttOk rfl rfl (nl (et (ev_ret (evr_blk (evr_then (ret_roll ⟨0, 0, 3, 1 + x5, x6, x7, x8⟩ δ8 ttOk rfl rfl rfl rfl ?_ ?_)))))))
   ·simp [RpLe, L2, RcLe]
   ·exact op_job ⟨r5a, r5b⟩ ⟨r6a, r6b⟩ ⟨r7a, r7b⟩ ⟨r8a, r8b⟩
  ·try have d4 := of_decide_eq_false h4
   refine sq (rg (xb ttOk rfl rfl (xs rfl rfl (nl (et (ev_cond rfl (fun h9 => ?_) (fun h9 => ?_)))))))
   ·try have d9 := of_decide_eq_true h9
    refine sq (rg (xm rfl rfl (evl_roll (nm := 25) (cf rfl) (c_below _ om) rfl rfl hsrc (rs_of rfl) (fun _ => rfl) (fun x10 δ10 r10 => ?_))))
    refine rlk rfl rfl rfl ?_
    obtain ⟨r10a, r10b⟩ := r10
    refine xa rfl rfl rfl om rfl (xm rfl rfl (evl_roll (nm := 28) (cf rfl) (c_below _ om) rfl rfl hsrc (rs_of rfl) (fun _ => rfl) (fun x11 δ11 r11 => ?_)))
    refine rlk rfl rfl rfl ?_
    obtain ⟨r11a, r11b⟩ := r11
    refine xo (q_build ttOk rfl) rfl (xst ttOk rfl rfl (nl (et (ev_ret (evr_blk (evr_then (ret_roll ⟨0, 0, 4, 1 + x10, x11, 0, 0⟩ δ11 ttOk rfl rfl rfl rfl ?_ ?_)))))))
    ·simp [RpLe, L2, RcLe]
    ·exact op_fire ⟨r10a, r10b⟩ ⟨r11a, r11b⟩
   ·try have d9 := of_decide_eq_false h9
    refine sq (rg (xb ttOk rfl rfl (xs rfl rfl (nl (et (ev_cond rfl (fun h12 => ?_) (fun h12 => ?_)))))))
    ·try have d12 := of_decide_eq_true h12
     refine sq (rg (xm rfl rfl (evl_roll (nm := 33) (cf rfl) (c_below _ om) rfl rfl hsrc (rs_of rfl) (fun _ => rfl) (fun x13 δ13 r13 => ?_))))
     refine rlk rfl rfl rfl ?_
     obtain ⟨r13a, r13b⟩ := r13
     refine xa rfl rfl rfl om rfl (xo (q_build ttOk rfl) rfl (xst ttOk rfl rfl (nl (et (ev_ret (evr_blk (evr_then (ret_roll ⟨0, 0, 5, 1 + x13, 0, 0, 0⟩ δ13 ttOk rfl rfl rfl rfl ?_ ?_))))))))
     ·simp [RpLe, L2, RcLe]
     ·exact op_lease ⟨r13a, r13b⟩
    ·try have d12 := of_decide_eq_false h12
     refine ev_skip (eb (et (sq (rg (xm rfl rfl (evl_roll (nm := 37) (cf rfl) (c_below _ om) rfl rfl hsrc (rs_of rfl) (fun _ => rfl) (fun x14 δ14 r14 => ?_)))))))
     refine rlk rfl rfl rfl ?_
     obtain ⟨r14a, r14b⟩ := r14
     refine xm rfl rfl (evl_roll (nm := 39) (cf rfl) (c_below _ om) rfl rfl hsrc (rs_of rfl) (fun _ => rfl) (fun x15 δ15 r15 => ?_))
     refine rlk rfl rfl rfl ?_
     obtain ⟨r15a, r15b⟩ := r15
     refine xo (q_build ttOk rfl) rfl (xst ttOk rfl rfl (nl (et (ev_ret (ret_roll ⟨0, 0, 1, x14, x15, 0, 0⟩ δ15 ttOk rfl rfl rfl rfl ?_ ?_)))))
     ·simp [RpLe, L2, RcLe]
     ·exact op_put ⟨r14a, r14b⟩ ⟨r15a, r15b⟩
theorem c_w9Fates (m : Nat) (hm : m ≤ 1000) : Rolls Try.prog 55 11 [one (iC m)] (α := List Int) (fun F => F.length = m) (fun F => [one' (intsR 2 F)]) := by
 refine rolls_intro (N := 17) Try.func11 rfl rfl rfl rfl (fun H w g v0 bn δ0 hsrc => ?_)
 refine sq (rg (xs rfl rfl (nl (et (sq (rg (evl_e (e_lit ttOk rfl rfl rfl) (xs rfl rfl (nl (et (sq (ev_blk (ev_loop (fun i : Nat × Int × List Int × DS bn => (⟨[(0, pbV 0 0), (1, iV i.2.1), (5, .p false [.rt 101])], [(0, 55, diceA v0 i.2.2.2)], [(101, 2, 1, (i.2.2.1.map fun x => [iC x]))], []⟩ : St)) (fun i => i.2.1 = (m : Int) - i.1 ∧ i.1 ≤ m ∧ i.2.2.1.length = i.1) (fun i => m - i.1) (0, m, [], δ0) [(101, 6)] (⟨by simp, by simp, rfl⟩) ⟨trf, trf, ⟨⟨_, rfl, by rfl⟩, trivial⟩, tre, rfl⟩ ?_)))))))))))))
 intro i hp
 obtain ⟨k, z, F, δ⟩ := i
 have hp : z = (m : Int) - k ∧ k ≤ m ∧ F.length = k := hp
 obtain ⟨p0, p1, p2⟩ := hp
 show Ev _ _ _ _ (⟨[(0, pbV 0 0), (1, iV z), (5, .p false [.rt 101])], [(0, 55, diceA v0 δ)], [(101, 2, 1, (F.map fun x => [iC x]))], []⟩ : St)
 refine sq (sq (rg (xm rfl rfl (xb ttOk rfl rfl (nl (et (ev_cond rfl (fun h1 => ?_) (fun h1 => ?_))))))))
 ·try have d1 := of_decide_eq_true h1
  refine ev_skip (et (sq (ev_blk (rg (xm rfl rfl (xm rfl rfl (evl_roll (nm := 13) (cf rfl) (c_below _ om) rfl rfl hsrc (rs_of rfl) (fun _ => rfl) (fun x2 δ2 r2 => ?_))))))))
  refine rlk rfl rfl rfl ?_
  obtain ⟨r2a, r2b⟩ := r2
  refine evl_e (e_lit ttOk rfl rfl rfl) (evl_e (e_app ttOk rfl rfl rfl rfl rfl rfl rfl (by simp; omega) rfl rfl) (xs rfl rfl (nl (eb (et (rg (xm rfl rfl (xa rfl rfl rfl om rfl (xs rfl rfl (nl (eve_round (k + 1, z - 1, F ++ [x2], δ2) [(101, 15)] ?hp ⟨trf, trf, ⟨⟨_, rfl, by simp⟩, trivial⟩, tre, rfl⟩)))))))))))
  case hp => exact ⟨⟨by dsimp only; omega, by omega, by simp [p2]⟩, by omega⟩
 ·try have d1 := of_decide_eq_false h1
  refine ev_exit (evx_then (evx_then (evx_hit (et (sq (rg (xm rfl rfl (xs rfl rfl (nl (et (ev_ret ?_)))))))))))
  obtain rfl : k = m := by omega
  refine ret_roll F δ ttOk rfl rfl rfl rfl ?_ ?_
  ·simp [RpLe, L2, RcLe]
  ·exact p2
theorem over_seq {B : Int} : ∀ {es : List Entry} {l c : List Mark}, overL l es = some c → (∀ m ∈ l, m.seq ≤ B) → (∀ e ∈ es, e.seq ≤ B) → ∀ m ∈ c, m.seq ≤ B
 | [], l, c, h, h1, _ => by cases h; exact h1
 | e :: es, l, c, h, h1, h2 => by
  unfold overL at h
  split at h
  ·refine over_seq h (fun m hm => ?_) (fun x hx => h2 x (by simp [hx]))
   rcases mem_ins.1 hm with rfl | ⟨hm, _⟩
   ·exact h2 e (by simp)
   ·exact h1 m hm
  ·cases h
structure Lg (k : Nat) (n : LogN) : Prop where
 j : LogJ n
 last : lastB n.book ≤ k
 hs : ∀ m ∈ n.head.seen, m.seq ≤ 9 + k
 es : ∀ e ∈ n.book.entries, e.seq ≤ 9 + k
theorem findM_seq {l : List Mark} {B : Int} (h0 : 0 ≤ B) (h : ∀ m ∈ l, m.seq ≤ B) (c : Int) : (findM l c).seq ≤ B := by
 unfold findM
 cases hf : l.find? fun m => decide (m.client = c) with
 | none => exact h0
 | some m => exact h m (List.mem_of_find?_eq_some hf)
section
variable {n : LogN} {k : Nat}
theorem Lg.ok (h : Lg k n) : logOkF n = true := h.j.ok
theorem Lg.seenOk (h : Lg k n) : Go.Proofs.Ytahkjonokeifmaa.seenOk n.seen = true := of_sok (log_seen h.ok).2.2
theorem Lg.seen (h : Lg k n) : ∀ m ∈ n.seen, m.seq ≤ 9 + k := over_seq (log_seen h.ok).1 h.hs h.es
theorem Lg.seq (h : Lg k n) (c : Int) : (findM n.seen c).seq ≤ 9 + k := findM_seq om h.seen c
theorem Lg.mono (h : Lg k n) {k2 : Nat} (hk : k ≤ k2) : Lg k2 n := ⟨h.j, by have := h.last; omega, fun m hm => by have := h.hs m hm; omega, fun m hm => by have := h.es m hm; omega⟩
theorem Lg.base (h : Lg k n) : 0 ≤ n.book.base := (book_bd h.j.parts.2.2.1).1
theorem Lg.len (h : Lg k n) : (n.book.entries.length : Int) ≤ lastB n.book := by
 have := h.base
 unfold lastB; omega
theorem Lg.next_seen (h : Lg k n) (hm : n.more = true) : ∀ m ∈ n.next.seen, m.seq ≤ 9 + k := by
 obtain ⟨n1, n2, n3, n4, n5⟩ := h.j.next hm
 have hd := log_dur h.ok
 have hb := (log_bases h.ok).1
 have ho := (next_over h.ok (x := n.next.base) om om).1
 rw [← n5] at ho
 exact over_seq ho h.hs fun e he => h.es e (List.mem_of_mem_take he)
theorem Lg.sync (h : Lg k n) : Lg k (syncedF n).1 := by
 have hj := h.j.sync
 obtain ⟨hk, hh, hb, he, ht, _⟩ := h.j.parts
 have hd := log_dur h.ok
 cases hm : n.more
 ·rw [sy_less h.ok hm] at hj ⊢
  exact ⟨hj, h.last, h.hs, h.es⟩
 ·obtain ⟨n1, n2, n3, n4, n5⟩ := h.j.next hm
  have hx : inB n.next.base n.book.base (lastB n.book) = true := inB_iff.2 ⟨by omega, by omega⟩
  rw [sy_more h.ok hm] at hj ⊢
  rw [tr_yes hb hx] at hj ⊢
  refine ⟨hj, ?_, h.next_seen hm, fun e he => h.es e (List.mem_of_mem_drop he)⟩
  have hl := h.last
  unfold lastB at hl hd ⊢
  simp only [List.length_drop]
  omega
theorem Lg.fits (h : Lg k n) {a : Ask} {now : Int} (ha : askOkF a = true) (hn : timeOk now = true) (hk : k < 2000) (hl : n.book.entries.length < 20) : fitsF n.book (entA n a now) = true := by
 have := h.last
 exact entA_fits h.j.parts.2.2.1 ha hn om hl
theorem Lg.takes (h : Lg k n) {a : Ask} {now : Int} (ha : askOkF a = true) (hn : timeOk now = true) (hk : k < 2000) (hl : n.book.entries.length < 20) : takesA n (entA n a now) = true := h.j.takes (h.fits ha hn hk hl)
theorem Lg.fresh (h : Lg k n) {a : Ask} {now : Int} (ha : askOkF a = true) (hn : timeOk now = true) (hk : k < 2000) (hl : n.book.entries.length < 20) (hs : a.seq > (findM n.seen a.client).seq) : freshF n.seen (entA n a now) = true :=
 fresh_of h.ok (fits_iff.1 (h.fits ha hn hk hl)).1 hs rfl
theorem Lg.withE (h : Lg k n) {a : Ask} {now : Int} (ha : askOkF a = true) (hn : timeOk now = true) (hk : k < 2000) (hl : n.book.entries.length < 20) (hs : a.seq > (findM n.seen a.client).seq) (hq : a.seq ≤ 10 + k) : Lg (k + 1) (Go.Proofs.Ytahkjonokeifmaa.withE n (entA n a now)) := by
 have hla := h.last
 refine ⟨h.j.ask (h.fits ha hn hk hl) (h.fresh ha hn hk hl hs), ?_, fun m hm => by have := h.hs m hm; omega, fun e he => ?_⟩
 ·show lastB (appF n.book _) ≤ _
  unfold lastB at hla ⊢
  simp only [appF, List.length_append, List.length_singleton]
  omega
 ·have he : e ∈ n.book.entries ++ [entA n a now] := he
  rcases List.mem_append.1 he with he | he
  ·have := h.es e he; omega
  ·rw [List.mem_singleton.1 he]
   show a.seq ≤ _
   omega
theorem Lg.ask (h : Lg k n) {a : Ask} {now : Int} (ha : askOkF a = true) (hn : timeOk now = true) (hk : k < 2000) (hl : n.book.entries.length < 20) (hq : a.seq ≤ 10 + k) : Lg (k + 1) (askedF n a now).1 := by
 rcases Int.lt_trichotomy (findM n.seen a.client).seq a.seq with hs | hs | hs
 ·rw [ak_fresh h.ok ha hn hs]
  show Lg (k + 1) (freshLogF n a now)
  unfold freshLogF
  rw [h.takes ha hn hk hl]
  exact h.withE ha hn hk hl hs hq
 ·rcases Int.lt_or_le n.durable (findM n.seen a.client).index with h9 | h9
  ·rw [ak_wait h.ok ha hn hs.symm h9]; exact h.mono om
  ·rw [ak_told h.ok ha hn hs.symm om]; exact h.mono om
 ·rw [ak_old h.ok ha hn hs]; exact h.mono om
theorem Lg.fresh_ok (h : Lg k n) {a : Ask} (h1 : askerOk a.client = true) (h2 : opOk a.kind a.a a.b a.c a.d = true) (h3 : a.seq = (findM n.seen a.client).seq + 1) (hk : k < 1900) : askOkF a = true ∧ a.seq ≤ 10 + k ∧ a.seq > (findM n.seen a.client).seq := by
 have h4 := h.seq a.client
 have h5 := find_seq (sok_of h.seenOk) a.client
 have h6 : seqOk a.seq = true := inB_iff.2 ⟨by omega, by omega⟩
 exact ⟨by simp only [askOkF, h1, h2, h6, Bool.and_self], by omega, by omega⟩
end
theorem step_rng (s x : Int) : 0 ≤ sumStep s x ∧ sumStep s x < 999999937 := by unfold sumStep; omega
theorem step_inj {s t x : Int} (hs : 0 ≤ s ∧ s < 999999937) (ht : 0 ≤ t ∧ t < 999999937) (e : sumStep s x = sumStep t x) : s = t := by
 unfold sumStep at e
 obtain ⟨q, hq⟩ : ∃ q, 131 * (s - t) = 999999937 * q := ⟨(131 * s + x + 1) / 999999937 - (131 * t + x + 1) / 999999937, by omega⟩
 have h2 : s - t = 999999937 * (274809143 * q - 36 * (s - t)) := by omega
 omega
theorem step_inj2 {s x v : Int} (hx : 0 ≤ x ∧ x < 999999937) (hv : 0 ≤ v ∧ v < 999999937) (e : sumStep s x = sumStep s v) : x = v := by
 unfold sumStep at e
 omega
theorem fold_inj : ∀ {l : List Int} {s t : Int}, (0 ≤ s ∧ s < 999999937) → (0 ≤ t ∧ t < 999999937) → l.foldl sumStep s = l.foldl sumStep t → s = t
 | [], _, _, _, _, e => e
 | x :: l, s, t, hs, ht, e => step_inj hs ht (fold_inj (step_rng s x) (step_rng t x) e)
theorem sum_set {l : List Int} {p : Nat} {v : Int} (hp : p < l.length) (hl : ∀ x ∈ l, 0 ≤ x ∧ x < 999999937) (hv : 0 ≤ v ∧ v < 999999937) (e : sumF (l.set p v) = sumF l) : l[p] = v := by
 have e1 : l.set p v = l.take p ++ v :: l.drop (p + 1) := by rw [List.set_eq_take_append_cons_drop, if_pos hp]
 have e2 : l = l.take p ++ l[p] :: l.drop (p + 1) := by rw [← List.drop_eq_getElem_cons hp, List.take_append_drop]
 have e3 : sumF (l.take p ++ v :: l.drop (p + 1)) = sumF (l.take p ++ l[p] :: l.drop (p + 1)) := by rw [← e1, e, ← e2]
 unfold sumF at e3
 simp only [List.foldl_append, List.foldl_cons] at e3
 exact step_inj2 (hl _ (List.getElem_mem hp)) hv (fold_inj (step_rng _ _) (step_rng _ _) e3).symm
theorem rot_good {r : List Int} (h : canSum r = true) (hr : ∀ x ∈ r, x < 999999937) {p : Nat} {v : Int} (hp : p < (withSumF r).length) (hv : 0 ≤ v ∧ v < 999999937) : (withSumF r).set p v = withSumF r ∨ unsF ((withSumF r).set p v) = none := by
 have hn : ∀ x ∈ r, 0 ≤ x ∧ x < 999999937 := fun x hx => by
  have h1 := hr x hx
  simp only [canSum, Bool.and_eq_true] at h
  have := numOk_iff.1 ((rowOk_nums h.1).2 x hx)
  omega
 rw [withSum_yes h] at hp ⊢
 simp only [List.length_append, List.length_singleton] at hp
 by_cases he : (r ++ [sumF r])[p]'(by simp; omega) = v
 ·left
  rw [← he, List.set_getElem_self]
 ·right
  have hlen : ((r ++ [sumF r]).set p v).length = r.length + 1 := by simp
  refine uns_no om ?_
  rcases Nat.lt_or_ge p r.length with h9 | h9
  ·have e1 : ((r ++ [sumF r]).set p v).take (((r ++ [sumF r]).set p v).length - 1) = r.set p v := by
    rw [hlen, List.set_append_left _ _ h9]
    simp
   have e2 : ((r ++ [sumF r]).set p v)[((r ++ [sumF r]).set p v).length - 1]'om = sumF r := by
    simp only [hlen, Nat.add_sub_cancel]
    rw [List.getElem_set_ne om, List.getElem_append_right om]
    simp
   rw [e1, e2]
   intro e
   exact he (by rw [List.getElem_append_left h9]; exact sum_set h9 hn hv e)
  ·obtain rfl : p = r.length := by omega
   have e1 : ((r ++ [sumF r]).set r.length v).take (((r ++ [sumF r]).set r.length v).length - 1) = r := by
    rw [hlen]
    simp
   have e2 : ((r ++ [sumF r]).set r.length v)[((r ++ [sumF r]).set r.length v).length - 1]'om = v := by
    simp only [hlen, Nat.add_sub_cancel]
    simp
   rw [e1, e2]
   intro e
   exact he (by rw [List.getElem_append_right om]; simpa using e)
structure Kl (n : LogN) : Prop where
 j : LogJ n
 base : n.book.base = 0
 more : n.more = false
 head : n.head = noHead
 low : ∀ i, n.durable < i → i ≤ 20 → (cell n.two.a (slotF i)).length ≤ 1
 one : cell n.two.a 1 = []
theorem newKl : Kl newLogF := by
 obtain ⟨e, hr⟩ := newKept_eq
 have hc : ∀ s : Int, s.toNat ≠ 0 → cell newLogF.two.a s = [] := fun s hs => by
  show newKeptF.a.kept.getD s.toNat [] = _
  rw [e]
  simp only
  rw [List.getD_eq_getElem?_getD, List.getElem?_set_ne om]
  by_cases h9 : s.toNat < 22
  ·rw [List.getElem?_replicate_of_lt h9]; rfl
  ·rw [List.getElem?_eq_none (by simp; omega)]; rfl
 refine ⟨newJ, rfl, rfl, rfl, fun i h1 h2 => ?_, hc 1 (by decide)⟩
 have := slot_rng i
 rw [hc (slotF i) om]
 simp
section
variable {n : LogN}
theorem Kl.ask (h : Kl n) {e : Entry} (hf : fitsF n.book e = true) (hfr : freshF n.seen e = true) : Kl (withE n e) := by
 have ht := (h.j.ask_two (fits_iff.1 hf).1).1
 have hk : ∀ s, cell (withE n e).two.a s = cell n.two.a s := fun s => by
  show cell (keptEntryF n.two e).1.a s = _
  rw [ht]
  rfl
 exact ⟨h.j.ask hf hfr, h.base, h.more, h.head, fun i h1 h2 => by rw [hk]; exact h.low i h1 h2, by rw [hk]; exact h.one⟩
theorem Kl.sync (h : Kl n) : Kl (syncedF n).1 := by
 have hj := h.j.sync
 have hdu := log_dur h.j.ok
 have hb := h.base
 obtain ⟨_, _, _, _, _, hd, _⟩ := h.j.parts
 rw [sy_less h.j.ok h.more] at hj ⊢
 have hs : (bothSyncF n.two).a = fallF n.two.a [] true := by rw [h.j.sync_two]
 refine ⟨hj, h.base, h.more, h.head, fun i h1 h2 => ?_, ?_⟩
 ·have h1 : lastB n.book < i := h1
  show (cell (bothSyncF n.two).a (slotF i)).length ≤ 1
  rw [hs, h.j.sync_free h1 om]
  exact h.low i om h2
 ·show cell (bothSyncF n.two).a 1 = []
  rw [hs, h.j.sync_head (p := 1) om (fun hm => by rw [h.more] at hm; cases hm)]
  exact h.one
theorem Kl.slot (h : Kl n) (G : List Int) {j : Nat} (hj : j < n.book.entries.length) : (cell (fallF n.two.a G false) (slotF n.book.entries[j].index)).length ≤ 11 ∨ cell (fallF n.two.a G false) (slotF n.book.entries[j].index) = withSumF (slotRowF n.book.entries[j]) := by
 obtain ⟨_, _, _, _, _, hd, _⟩ := h.j.parts
 have hix := h.j.ix hj
 have hb := h.base
 have hs := slot_rng n.book.entries[j].index
 rcases Int.lt_or_le n.durable n.book.entries[j].index with h1 | h1
 ·have hold := h.low _ h1 om
  rcases cell_fall hd G (s := slotF n.book.entries[j].index) (r := withSumF (slotRowF n.book.entries[j])) om (fun x hx e => by
   obtain ⟨_, k, hk, e1, e2⟩ := h.j.w_slot om om hx e
   have hkx := h.j.ix hk
   obtain rfl : k = j := by omega
   exact e2) with e | e | e
  ·rw [e]; exact .inl om
  ·rw [e]; exact .inr rfl
  ·rw [e]
   refine .inl ?_
   have h12 : (withSumF (slotRowF n.book.entries[j])).length = 12 := by rw [withSum_yes (slot_sum hix.2.2), List.length_append, slot_len hix.2.2]; rfl
   unfold tornF
   rw [List.length_append, List.length_take, List.length_drop, h12]
   omega
 ·right
  rw [cell_miss hd _ _ om fun x hx e => ?_, h.j.ents j hj h1]
  have := (h.j.w_slot om om hx e).1
  omega
theorem Kl.free (h : Kl n) (G : List Int) {i : Int} (h1 : lastB n.book < i) (h2 : i ≤ 20) : (cell (fallF n.two.a G false) (slotF i)).length ≤ 1 := by
 obtain ⟨_, _, _, _, _, hd, _⟩ := h.j.parts
 have hdu := log_dur h.j.ok
 have hb := h.base
 have hs := slot_rng i
 rw [cell_miss hd _ _ om fun x hx e => ?_]
 ·exact h.low i om h2
 ·obtain ⟨_, k, hk, e1, _⟩ := h.j.w_slot (by unfold lastB at h1; omega) om hx e
  have := h.j.ix hk
  unfold lastB at h1
  omega
theorem Kl.zero (h : Kl n) (G : List Int) : cell (fallF n.two.a G false) 0 = withSumF (headRowF noHead) := by
 obtain ⟨_, _, _, _, _, hd, _⟩ := h.j.parts
 have e0 := h.j.head
 rw [h.head] at e0
 rw [cell_miss hd _ _ om fun x hx e => ?_]
 ·exact e0
 ·obtain ⟨k1, _⟩ := h.j.w_head (p := 0) om hx e
  rw [h.more] at k1; cases k1
theorem Kl.nil1 (h : Kl n) (G : List Int) : cell (fallF n.two.a G false) 1 = [] := by
 obtain ⟨_, _, _, _, _, hd, _⟩ := h.j.parts
 rw [cell_miss hd _ _ om fun x hx e => ?_]
 ·exact h.one
 ·obtain ⟨k1, _⟩ := h.j.w_head (p := 1) om hx e
  rw [h.more] at k1; cases k1
end
def rotD (d : Disk) (s p : Nat) (v : Int) : Disk := ⟨d.kept.set s ((d.kept.getD s []).set p v), d.wait⟩
theorem rot_cell {d : Disk} {s p : Nat} {v x : Int} (hs : s < d.kept.length) : cell (rotD d s p v) x = if x.toNat = s then (cell d x).set p v else cell d x := by
 unfold cell rotD
 simp only [List.getD_eq_getElem?_getD]
 split
 ·rename_i h
  rw [h, List.getElem?_set_self hs]
  rfl
 ·rename_i h
  rw [List.getElem?_set_ne (fun e => h e.symm)]
theorem rot_ok {d : Disk} {s p : Nat} {v : Int} (hd : diskOk d = true) (hv : numOk v = true) : diskOk (rotD d s p v) = true := by
 simp only [diskOk, Bool.and_eq_true, decide_eq_true_eq, List.all_eq_true] at hd ⊢
 obtain ⟨h1, h2, h3, h4, h5⟩ := hd
 have hr : ∀ r ∈ (rotD d s p v).kept, rowOk r = true := fun r hr => by
  rcases List.mem_or_eq_of_mem_set hr with h9 | h9
  ·exact h4 r h9
  ·subst h9
   have h8 : rowOk (d.kept.getD s []) = true := by
    rw [List.getD_eq_getElem?_getD]
    cases hk : d.kept[s]? with
    | none => rfl
    | some y => exact h4 y (List.mem_of_getElem? hk)
   simp only [rowOk, Bool.and_eq_true, decide_eq_true_eq, List.all_eq_true, List.length_set] at h8 ⊢
   exact ⟨h8.1, fun x hx => by
    rcases List.mem_or_eq_of_mem_set hx with h7 | h7
    ·exact h8.2 x h7
    ·rw [h7]; exact hv⟩
 exact ⟨by unfold rotD; simpa using h1, by unfold rotD; simpa using h2, h3, hr, fun y hy => by
  have hw : writeOk (rotD d s p v) y = writeOk d y := by unfold writeOk hasAt rotD; simp
  rw [hw]
  exact h5 y hy⟩
theorem op_small {k a b c d : Int} (h : opOk k a b c d = true) : k < 999999937 ∧ a < 999999937 ∧ b < 999999937 ∧ c < 999999937 ∧ d < 999999937 := by
 unfold opOk at h
 repeat' split at h
 all_goals first
 | (simp only [inB, timeOk, Bool.and_eq_true, decide_eq_true_eq] at h; omega)
 | (cases h; done)
 | (simp [inB, timeOk] at h; omega)
theorem ent_small {e : Entry} (h : entryOk e = true) : ∀ x ∈ slotRowF e, x < 999999937 := by
 have h0 := h
 simp only [entryOk, indexOk, timeOk, askerOk, seqOk, inB, Bool.and_eq_true, decide_eq_true_eq] at h
 obtain ⟨h1, h2, h3, h4, h5⟩ := h
 have h6 := op_small h5
 intro x hx
 rw [slotRow_yes h0] at hx
 simp only [Entry.nums, List.mem_append, List.mem_cons, List.not_mem_nil, or_false] at hx
 omega
theorem rot_ent {e : Entry} (h : entryOk e = true) {p : Nat} {v : Int} (hv : 0 ≤ v ∧ v < 60) : entIn ((withSumF (slotRowF e)).set p v) = some e ∨ entIn ((withSumF (slotRowF e)).set p v) = none := by
 rcases Nat.lt_or_ge p (withSumF (slotRowF e)).length with hp | hp
 ·rcases rot_good (slot_sum h) (ent_small h) hp (v := v) om with h1 | h1
  ·rw [h1]; exact .inl (ent_good h)
  ·right; unfold entIn; rw [h1]; rfl
 ·rw [List.set_eq_of_length_le hp]; exact .inl (ent_good h)
theorem rot_head {p : Nat} {v : Int} (hv : 0 ≤ v ∧ v < 60) : isH noHead ((withSumF (headRowF noHead)).set p v) := by
 have h0 : headOk noHead = true := by kernel_rfl
 rcases Nat.lt_or_ge p (withSumF (headRowF noHead)).length with hp | hp
 ·rcases rot_good (head_sum h0) (by decide) hp (v := v) om with h1 | h1
  ·rw [h1]; exact .inl (head_good h0)
  ·right; unfold headOn; rw [h1]; rfl
 ·rw [List.set_eq_of_length_le hp]; exact .inl (head_good h0)
theorem rot_short {c : List Int} {p : Nat} {v : Int} (h : c.length ≤ 11) : entIn (c.set p v) = none := ent_short (by simpa using h)
theorem Kl.rotted {n : LogN} (h : Kl n) (F : List Int) {s p : Nat} {v : Int} (hs : s < 22) (hv : 0 ≤ v ∧ v < 60) :
    ∃ A B : Disk, bothFallenF n.two F = ⟨A, B⟩ ∧ A.kept.length = 22 ∧ B.kept.length = 22 ∧ diskOk B = true ∧ ∃ m : Nat, n.durable ≤ m ∧ m ≤ n.book.entries.length ∧ bookOk ⟨0, 0, n.book.entries.take m⟩ = true ∧
      recF ⟨A, rotD B s p v⟩ = (⟨recD noHead (n.book.entries.take m), recD noHead (n.book.entries.take m)⟩, noHead, ⟨0, 0, n.book.entries.take m⟩, true) ∧ Rest ⟨recD noHead (n.book.entries.take m), recD noHead (n.book.entries.take m)⟩ := by
  obtain ⟨hk, hh, hb, he, ht, hdk, h22⟩ := h.j.parts
  have hr := rest_fall hk F
  have e := h.j.fall_two F
  rw [e] at hr
  obtain ⟨_, ha, hbd, la, lb⟩ := hr.parts
  have h0 : headOk noHead = true := by kernel_rfl
  have hdu := log_dur h.j.ok
  have hov := (log_seen h.j.ok).1
  have hb0 := h.base
  have hbs := (book_bd hb).2.2.1
  have hnum : numOk v = true := numOk_iff.2 ⟨by omega, by omega⟩
  obtain ⟨A, hA⟩ : ∃ A, A = fallF n.two.a (half F 0) false := ⟨_, rfl⟩
  obtain ⟨B, hB⟩ : ∃ B, B = fallF n.two.a (half F 1) false := ⟨_, rfl⟩
  rw [← hA, ← hB] at e hr
  rw [← hA] at ha la
  rw [← hB] at hbd lb
  simp only at la lb
  have hc : ∀ x, cell (rotD B s p v) x = if x.toNat = s then (cell B x).set p v else cell B x := fun x => rot_cell om
  have hr2 : Rest ⟨A, rotD B s p v⟩ := ⟨keptOk_iff.2 ⟨twoOk_iff.2 ⟨ha, rot_ok hbd hnum, by show A.kept.length = (B.kept.set s _).length; rw [List.length_set]; omega⟩, la⟩, hr.wa, hr.wb⟩
  have hz : ∀ G, cell (fallF n.two.a G false) 0 = withSumF (headRowF noHead) := h.zero
  have hbh : ∀ nx, othH noHead nx [] := fun nx => .inr fun h' he' => by
    have : headOn [] = none := by kernel_rfl
    rw [this] at he'; cases he'
  have run : ∀ nx : Head, nx.num = 1 → headIn ⟨A, rotD B s p v⟩ = (noHead, true) ∨ headIn ⟨A, rotD B s p v⟩ = (nx, true) := by
    intro nx h1
    refine head_run (h := noHead) (p := 0) (q := 1) hr2 rfl (by rw [h1]; rfl) (by rw [h1]; rfl) (Int.le_refl _) ?_ ?_ ?_ ?_ ?_
    · show isH noHead (cell A 0)
      rw [hA, hz]; exact .inl (head_good h0)
    · show isH noHead (cell (rotD B s p v) 0)
      rw [hc, hB, hz]
      split
      · exact rot_head hv
      · exact .inl (head_good h0)
    · exact .inl (by show headOn (cell A 0) = _; rw [hA, hz]; exact head_good h0)
    · show othH noHead nx (cell A 1)
      rw [hA, h.nil1]; exact hbh nx
    · show othH noHead nx (cell (rotD B s p v) 1)
      rw [hc, hB, h.nil1]
      split
      · exact hbh nx
      · exact hbh nx
  have hi : headIn ⟨A, rotD B s p v⟩ = (noHead, true) := by
    rcases run ⟨1, 0, 0, []⟩ rfl with h1 | h1
    · exact h1
    · rcases run ⟨1, 1, 0, []⟩ rfl with h2 | h2
      · exact h2
      · rw [h1] at h2
        simp at h2
  have hhd := h.head
  have hb' : bookOk ⟨noHead.base, noHead.time, n.book.entries⟩ = true := by rw [← hhd, ← he, ← ht]; exact hb
  have ho' : overL noHead.seen n.book.entries = some n.seen := by rw [← hhd]; exact hov
  obtain ⟨m, h1, h2, h3⟩ := book_run (es := n.book.entries) (m0 := n.durable.toNat) hr2 h0 hb' ho' (by unfold lastB at hdu; omega)
    (fun j hj => by
      have hix := h.j.ix hj
      have gos : ∀ c : List Int, c.length ≤ 11 ∨ c = withSumF (slotRowF n.book.entries[j]) → eorb n.book.entries[j] c := fun c hg => by
        rcases hg with hg | hg
        · exact .inr fun e2 he2 => by rw [ent_short hg] at he2; cases he2
        · rw [hg]; exact .inl (ent_good hix.2.2)
      refine ⟨?_, ?_⟩
      · show eorb _ (cell A _)
        rw [hA]; exact gos _ (h.slot _ hj)
      · show eorb _ (cell (rotD B s p v) _)
        rw [hc, hB]
        split
        · rcases h.slot (half F 1) hj with hg | hg
          · exact .inr fun e2 he2 => by rw [rot_short hg] at he2; cases he2
          · rw [hg]
            rcases rot_ent hix.2.2 (p := p) hv with h9 | h9
            · exact .inl h9
            · exact .inr fun e2 he2 => by rw [h9] at he2; cases he2
        · exact gos _ (h.slot _ hj))
    (fun j hj hjm => .inl (by
      show entIn (cell A _) = _
      rw [hA]
      exact h.j.fall_sure _ hj (by have := h.j.ix hj; omega)))
    (fun hl => by
      have hx : noHead.base + (n.book.entries.length : Int) + 1 = lastB n.book + 1 := by
        show (0 : Int) + _ + 1 = _
        unfold lastB; omega
      rw [hx]
      have hfr : ∀ G, (cell (fallF n.two.a G false) (slotF (lastB n.book + 1))).length ≤ 1 := fun G => h.free G om (by unfold lastB; omega)
      refine ⟨fun e2 he2 => ?_, fun e2 he2 => ?_⟩
      · have he2 : entIn (cell A _) = some e2 := he2
        rw [hA, ent_short (by have := hfr (half F 0); omega)] at he2; cases he2
      · have he2 : entIn (cell (rotD B s p v) _) = some e2 := he2
        rw [hc, hB] at he2
        have h8 := hfr (half F 1)
        split at he2
        · rw [rot_short om] at he2; cases he2
        · rw [ent_short om] at he2; cases he2)
  have hb2 := book_take hb' m
  obtain ⟨r1, r2⟩ := rec_run hr2.ok hi h0 h3 hb2
  exact ⟨A, B, e, la, by omega, hbd, m, by omega, h2, hb2, r1, r2⟩
def Wl (l : List Entry) : Prop := bookOk ⟨0, 0, l⟩ = true ∧ ∃ c, overL [] l = some c
theorem Wl.step {l : List Entry} (h : Wl l) {j : Nat} (hj : j < l.length) : fitsF ⟨0, 0, l.take j⟩ l[j] = true ∧ ∃ c, overL [] (l.take j) = some c ∧ freshF c l[j] = true := by
 obtain ⟨hb, c, hc⟩ := h
 have hbd := book_bd hb
 have hl : l.length ≤ 20 := hbd.2.2.1
 have hix := ent_ix hb j hj
 have hlen : (l.take j).length = j := by rw [List.length_take]; omega
 have hok := ents_ok hbd.2.2.2.2 _ (List.getElem_mem hj)
 refine ⟨fits_iff.2 ⟨hok, ?_, ?_, by show (l.take j).length < 20; omega⟩, over_fresh hc hj⟩
 ·show l[j].index = lastB ⟨0, 0, l.take j⟩ + 1
  unfold lastB
  simp only [hlen]
  have hix : l[j].index = 0 + 1 + j := hix
  omega
 ·cases j with
  | zero =>
   rw [timeB_nil (by simp)]
   have := (entriesOk_iff.1 hbd.2.2.2.2).2 0 hj
   simp only [entryOk, timeOk, inB, Bool.and_eq_true, decide_eq_true_eq] at hok
   show l[0].time ≥ 0
   omega
  | succ i =>
   rw [timeB_last (m := i) hlen]
   have h1 := (entriesOk_iff.1 hbd.2.2.2.2).2 (i + 1) hj
   simp only [entStep, entOver, List.getElem?_eq_getElem hj, List.getElem?_eq_getElem (show i < l.length by omega), Bool.and_eq_true, decide_eq_true_eq] at h1
   show l[i + 1].time ≥ (l.take (i + 1))[i].time
   rw [List.getElem_take]
   omega
structure Kj (l : List Entry) (d : Int) (j : Nat) (n : LogN) : Prop where
 k : Kl n
 book : n.book = ⟨0, 0, l.take j⟩
 dur : n.durable = d
theorem Kj.new {l : List Entry} : Kj l 0 0 newLogF := ⟨newKl, by simp [newLogF], rfl⟩
theorem Kj.ask {l : List Entry} (hl : Wl l) {d : Int} {j : Nat} {n : LogN} (h : Kj l d j n) (hj : j < l.length) : Kj l d (j + 1) (withE n l[j]) := by
 obtain ⟨h1, c, h2, h3⟩ := hl.step hj
 have hs := (log_seen h.k.j.ok).1
 rw [h.k.head, h.book] at hs
 have hc : n.seen = c := by
  have hs : overL [] (l.take j) = some n.seen := hs
  rw [h2] at hs
  injection hs with hs
  exact hs.symm
 refine ⟨h.k.ask (by rw [h.book]; exact h1) (by rw [hc]; exact h3), ?_, h.dur⟩
 show appF n.book l[j] = _
 rw [h.book]
 unfold appF
 simp only
 rw [List.take_succ_eq_append_getElem hj]
theorem Kj.sync {l : List Entry} {d : Int} {j : Nat} {n : LogN} (h : Kj l d j n) (hj : j ≤ l.length) : Kj l j j (syncedF n).1 := by
 have hk := h.k.sync
 rw [sy_less h.k.j.ok h.k.more] at hk ⊢
 refine ⟨hk, h.book, ?_⟩
 show lastB n.book = j
 rw [h.book]
 unfold lastB
 simp only [List.length_take]
 omega
structure Wg (l : List Entry) (S : List Int) (t : Int) : Prop where
 bk : bookOk ⟨0, 0, l⟩ = true
 ov : ∃ c, overL [] l = some c ∧ ∀ q : Int, 2 ≤ q → q ≤ 5 → S.getD q.toNat 0 = (findM c q).seq ∧ (findM c q).seq ≤ 2 * l.length
 tm : timeB ⟨0, 0, l⟩ ≤ t ∧ 0 ≤ t ∧ t ≤ 5 * l.length
 sl : S.length = 6
theorem sok_nil : SOk [] := sok_of kr
theorem Wg.new : Wg [] (List.replicate 6 0) 0 := by
 refine ⟨by kernel_rfl, ⟨[], rfl, fun q h1 h2 => ?_⟩, by rw [timeB_nil rfl]; simp, by simp⟩
 have e : (findM [] q).seq = 0 := rfl
 rw [e]
 refine ⟨?_, by simp⟩
 rw [List.getD_eq_getElem?_getD, List.getElem?_replicate_of_lt om]
 rfl
theorem Wg.wl {l : List Entry} {S : List Int} {t : Int} (h : Wg l S t) : Wl l := ⟨h.bk, h.ov.elim fun c hc => ⟨c, hc.1⟩⟩
theorem Wg.sq {l : List Entry} {S : List Int} {t : Int} (h : Wg l S t) {q : Int} (h1 : 2 ≤ q) (h2 : q ≤ 5) : 0 ≤ S.getD q.toNat 0 ∧ S.getD q.toNat 0 ≤ 2 * l.length := by
 obtain ⟨c, hc, hq⟩ := h.ov
 obtain ⟨e1, e2⟩ := hq q h1 h2
 have := (find_seq (over_sok sok_nil hc) q).1
 omega
theorem Wg.step {l : List Entry} {S : List Int} {t : Int} (h : Wg l S t) (hl : l.length < 20) {w x d : Int} {o : Ask} (hw : 2 ≤ w ∧ w ≤ 5) (hx : 0 ≤ x ∧ x < 2) (hd : 0 ≤ d ∧ d < 6) (ho : opOk o.kind o.a o.b o.c o.d = true) {i : Int} (hi : i = l.length + 1) {y : Int} (hy : y = S.getD w.toNat 0 + 1 + x) :
  Wg (l ++ [⟨i, t + d, w, y, o.kind, o.a, o.b, o.c, o.d⟩]) (S.set w.toNat y) (t + d) := by
 obtain ⟨c, hc, hq⟩ := h.ov
 obtain ⟨t1, t2, t3⟩ := h.tm
 have hsok := over_sok sok_nil hc
 have hsq := h.sq hw.1 hw.2
 have hsl := h.sl
 obtain ⟨e, he⟩ : ∃ e : Entry, e = ⟨i, t + d, w, y, o.kind, o.a, o.b, o.c, o.d⟩ := ⟨_, rfl⟩
 rw [← he]
 have g1 : e.index = l.length + 1 := by rw [he]; exact hi
 have g2 : e.time = t + d := by rw [he]
 have g3 : e.client = w := by rw [he]
 have g4 : e.seq = y := by rw [he]
 have hok : entryOk e = true := by
  simp only [entryOk, Bool.and_eq_true]
  refine ⟨inB_iff.2 ⟨by omega, by omega⟩, inB_iff.2 ⟨by omega, by omega⟩, inB_iff.2 ⟨by omega, by omega⟩, inB_iff.2 ⟨by omega, by omega⟩, ?_⟩
  rw [he]; exact ho
 have hfit : fitsF ⟨0, 0, l⟩ e = true := fits_iff.2 ⟨hok, by rw [g1]; unfold lastB; simp, by show timeB _ ≤ _; omega, hl⟩
 have hlast : lastF c ≤ l.length := by
  cases hn : l.length with
  | zero =>
   rw [List.eq_nil_of_length_eq_zero hn] at hc
   have : [] = c := Option.some.inj hc
   rw [← this]
   decide
  | succ m =>
   have hm : m < l.length := by omega
   have h8 := over_last (c := c) sok_nil hm (by rw [List.take_of_length_le om]; exact hc)
   have h9 : l[m].index = (0 : Int) + 1 + m := (ent_ix h.bk m hm)
   omega
 have hfr : freshF c e = true := by
  simp only [freshF, hok, Bool.true_and, Bool.and_eq_true, decide_eq_true_eq]
  rw [g3, g4, ← (hq w hw.1 hw.2).1, hy]
  exact ⟨by omega, by omega⟩
 refine ⟨app_ok h.bk hfit, ⟨insF c (eMark e), ?_, fun q h1 h2 => ?_⟩, ?_, by simpa using hsl⟩
 ·rw [overL_snoc, hc]
  simp only [Option.bind_some, hfr, if_true]
 ·have hf : findM (insF c (eMark e)) q = if q = w then eMark e else findM c q := by
   unfold findM
   rw [find_ins]
   show Option.getD (if q = e.client then _ else _) _ = _
   rw [g3]
   split <;> rfl
  rw [hf]
  simp only [List.getD_eq_getElem?_getD]
  split
  ·rename_i e1
   rw [e1, List.getElem?_set_self om]
   refine ⟨g4.symm, ?_⟩
   show e.seq ≤ _
   rw [List.length_append]
   simp only [List.length_cons, List.length_nil]
   omega
  ·rename_i e1
   rw [List.getElem?_set_ne om, ← List.getD_eq_getElem?_getD, List.length_append]
   have := hq q h1 h2
   exact ⟨this.1, by omega⟩
 ·have hl2 : (l ++ [e]).length = l.length + 1 := by simp
  have ht2 : timeB ⟨0, 0, l ++ [e]⟩ = e.time := by rw [timeB_last (m := l.length) (by simp)]; simp
  rw [ht2, hl2, g2]
  omega
end Go.Proofs.Ytahkjonokeifmaa
