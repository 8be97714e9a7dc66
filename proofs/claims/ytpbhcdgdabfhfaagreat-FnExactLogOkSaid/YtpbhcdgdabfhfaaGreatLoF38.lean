/- Walks of functions of the program, printed by a program of the prover. -/
import Derived.Test.YtpbhcdgdabfhfaaGreatLoF37
namespace Go.Proofs.YtpbhcdgdabfhfaaGreat
open Go.ChangeShapes Go.WideShapes Go.ChangeAt Go.RowKit
set_option linter.unusedVariables false
set_option linter.unusedSimpArgs false
set_option maxHeartbeats 1000000
set_option maxRecDepth 100000
attribute [local irreducible] EvL Ev EvE Quiet Eff Pure RDk RDb RDo
theorem ents_ok {l : List Entry} (h : entriesOk l = true) : ∀ e ∈ l, entryOk e = true := fun e he => by
  obtain ⟨k, hk, rfl⟩ := List.mem_iff_getElem.1 he
  have := (entriesOk_iff.1 h).2 k hk
  rw [entStep_at hk] at this
  simp only [Bool.and_eq_true] at this
  exact this.1
theorem book_first {b : Book} (hb : bookOk b = true) (h : 0 < b.entries.length) : b.entries[0].index = b.base + 1 := by
  simp only [bookOk, Bool.and_eq_true] at hb
  have h6 := hb.2.2.2.2.2
  revert h6 h
  cases b.entries with
  | nil => intro h; simp at h
  | cons e es =>
    intro h h6
    simp only [Bool.and_eq_true, decide_eq_true_eq] at h6
    exact h6.1
theorem ent_ix {b : Book} (hb : bookOk b = true) : ∀ j (hj : j < b.entries.length), b.entries[j].index = b.base + 1 + j
  | 0, hj => by rw [book_first hb hj]; simp
  | j + 1, hj => by
    have h1 := (entriesOk_iff.1 (book_bd hb).2.2.2.2).2 (j + 1) hj
    rw [entStep_at hj, entOver_at hj (by omega)] at h1
    simp only [Bool.and_eq_true, decide_eq_true_eq] at h1
    have h2 := ent_ix hb j (by omega)
    have h3 : b.entries[j + 1].index = b.entries[j].index + 1 := h1.2.1
    rw [h3, h2]
    omega
theorem from_part {b : Book} (hb : bookOk b = true) (x : Int) : fromF b x = partF b x 2000 := by
  unfold fromF partF
  refine List.filter_congr fun e he => ?_
  have := entry_ix (ents_ok (book_bd hb).2.2.2.2 e he)
  by_cases h : x ≤ e.index
  · simp [inB, h, this.2]
  · simp [inB, h]
theorem filt_run : ∀ (l : List Entry) (a c x : Int), a ≤ c → (∀ j (hj : j < l.length), l[j].index = c + j) → l.filter (fun e => inB e.index a x) = l.take (x - c + 1).toNat
  | [], a, c, x, _, _ => by simp
  | e :: t, a, c, x, ha, h => by
    have h0 : e.index = c := by have := h 0 (by simp); simpa using this
    have ih := filt_run t a (c + 1) x (by omega) fun j hj => by
      have := h (j + 1) (by simpa using hj)
      simp only [List.getElem_cons_succ] at this
      rw [this]; omega
    by_cases hx : c ≤ x
    · rw [List.filter_cons_of_pos (by simp [inB, h0, ha, hx]), ih, show (x - c + 1).toNat = (x - (c + 1) + 1).toNat + 1 by omega, List.take_succ_cons]
    · rw [List.filter_cons_of_neg (by simp [inB, h0, hx]), ih, show (x - c + 1).toNat = 0 by omega, show (x - (c + 1) + 1).toNat = 0 by omega]
      simp
theorem part_take {b : Book} (hb : bookOk b = true) (x : Int) : partF b (b.base + 1) x = b.entries.take (x - b.base).toNat := by
  unfold partF
  rw [filt_run b.entries (b.base + 1) (b.base + 1) x (Int.le_refl _) (ent_ix hb), show (x - (b.base + 1) + 1).toNat = (x - b.base).toNat by omega]
theorem over_prefix {l c : List Mark} {es : List Entry} (h : overL l es = some c) (m : Nat) : ∃ c', overL l (es.take m) = some c' := by
  cases h1 : overL l (es.take m) with
  | some c' => exact ⟨c', rfl⟩
  | none =>
    have := overL_none (es := es.drop m) h1
    rw [List.take_append_drop, h] at this
    cases this
theorem over_last {l c : List Mark} {es : List Entry} {m : Nat} (hs : SOk l) (hm : m < es.length) (h : overL l (es.take (m + 1)) = some c) : lastF c = es[m].index := by
  rw [List.take_succ_eq_append_getElem hm, overL_snoc] at h
  cases h1 : overL l (es.take m) with
  | none => rw [h1] at h; cases h
  | some c' =>
    rw [h1] at h
    simp only [Option.bind_some] at h
    split at h
    · rename_i hf
      cases h
      exact (fresh_ok (over_sok hs h1) hf).2
    · cases h
theorem so_some {l : List Mark} {es : List Entry} (h : (seenOverF l es).2 = true) : ∃ c, overL l es = some c := by
  unfold seenOverF at h
  split at h
  · split at h
    · split at h
      · rename_i c hc; exact ⟨c, hc⟩
      · cases h
    · cases h
  · cases h
theorem marks_eq {l m : List Mark} (h : eqN Mark.nums l m = true) : l = m := by
  have h1 : l.map Mark.nums = m.map Mark.nums := of_decide_eq_true h
  have key : ∀ {l m : List Mark}, l.map Mark.nums = m.map Mark.nums → l = m := by
    intro l
    induction l with
    | nil => intro m h; cases m with
      | nil => rfl
      | cons _ _ => simp at h
    | cons a l ih =>
      intro m h
      cases m with
      | nil => simp at h
      | cons b m =>
        simp only [List.map_cons, List.cons.injEq] at h
        rw [Mark.ext' h.1, ih h.2]
  exact key h1
theorem next_same {n : LogN} (hf : frontF n = true) (hm : midF n = true) (hmo : n.more = true) : (inB n.next.base (n.head.base + 1) n.durable && eqHd n.next (nextF n n.next.base)) = nextOkF n := by
  simp only [frontF, Bool.and_eq_true, decide_eq_true_eq] at hf
  simp only [midF, Bool.and_eq_true] at hm
  obtain ⟨_, hh, hb, he, _⟩ := hf
  obtain ⟨hso, _, hd⟩ := hm
  have hhd := head_bd hh
  have hbd := book_bd hb
  have hdd := inB_iff.1 hd
  by_cases hx : n.head.base < n.next.base ∧ n.next.base ≤ n.durable
  · obtain ⟨m, hm1, hm2⟩ := at_get (b := n.book) (x := n.next.base) (by omega) (by omega)
    have hs := sok_of hhd.2.2.2.2
    obtain ⟨c, hc⟩ := so_some hso
    have htk : (n.next.base - n.book.base).toNat = m + 1 := by omega
    obtain ⟨c', hc'⟩ := over_prefix hc (m + 1)
    have hSO : seenOverF n.head.seen (n.book.entries.take (m + 1)) = (c', true) := so4 hhd.2.2.2.2 (by rw [List.length_take]; omega) hc'
    have hin : inB n.next.base (n.book.base + 1) (lastB n.book) = true := inB_iff.2 ⟨by omega, by omega⟩
    have hent : entAtF n.book n.next.base = (n.book.entries[m], true) := ent_yes hb hin hm1 hm2
    have htime : timeAtF n.book n.next.base = n.book.entries[m].time := by
      unfold timeAtF
      rw [if_neg (by omega), atB_eq hm1 hm2]
    have hin2 : inB n.next.base (n.head.base + 1) n.durable = true := inB_iff.2 ⟨by omega, by omega⟩
    have hix := ent_ix hb m hm2
    have heo := ents_ok hbd.2.2.2.2 _ (List.getElem_mem hm2)
    have hix2 := entry_ix heo
    simp only [nextOkF, hmo, if_true, hin2, Bool.true_and, eqHd, nextF, part_take hb, htk, hSO, hent, htime, hx.1, hx.2, decide_true]
    by_cases h1 : n.next.num = n.head.num + 1
    · by_cases h2 : n.next.time = n.book.entries[m].time
      · cases h3 : eqN Mark.nums n.next.seen c'
        · simp
        · have h4 := marks_eq h3
          have h5 : headOk n.next = true := by
            have hto : timeOk n.book.entries[m].time = true := by
              simp only [entryOk, Bool.and_eq_true] at heo
              exact heo.2.1
            have hla := over_last hs hm2 hc'
            have hsc := of_sok (over_sok hs hc')
            have k1 : inB n.next.base 0 2000 = true := inB_iff.2 ⟨by omega, by omega⟩
            have k2 : inB n.next.num 0 n.next.base = true := inB_iff.2 ⟨by omega, by omega⟩
            have k3 : n.next.base > 0 := by omega
            have k4 : lastF n.next.seen = n.next.base := by rw [h4, hla, hix]; omega
            simp only [headOk, k1, k2, k3, k4, h2, hto, h4, hsc]
            rw [← h4, k4]
            simp
          simp [h1, h2, h5]
      · simp [h2]
    · simp [h1]
  · have hA : inB n.next.base (n.head.base + 1) n.durable = false := by
      cases h9 : inB n.next.base (n.head.base + 1) n.durable with
      | false => rfl
      | true => have := inB_iff.1 h9; omega
    rw [hA, Bool.false_and]
    simp only [nextOkF, hmo, if_true]
    by_cases h1 : n.head.base < n.next.base
    · have h2 : ¬ n.next.base ≤ n.durable := fun h => hx ⟨h1, h⟩
      simp [h2]
    · simp [h1]
theorem logOk_same (n : LogN) : logOkI n = logOkF n := by
  unfold logOkI logOkF
  cases hf : frontF n
  · rfl
  · cases hm : midF n
    · rfl
    · have hb : bookOk n.book = true := by
        simp only [frontF, Bool.and_eq_true] at hf
        exact hf.2.2.1
      simp only [Bool.true_and]
      have ho : eqN Ack.nums n.owe ((fromF n.book (n.durable + 1)).map ackF) = owesF n := by rw [from_part hb]; rfl
      rw [ho, Bool.and_comm]
      congr 1
      cases hmo : n.more
      · simp [nextOkF, hmo]
      · rw [← next_same hf hm hmo]; simp

end Go.Proofs.YtpbhcdgdabfhfaaGreat
