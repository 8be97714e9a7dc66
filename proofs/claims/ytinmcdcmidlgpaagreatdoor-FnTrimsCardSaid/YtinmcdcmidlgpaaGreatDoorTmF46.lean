/- Walks of functions of the program, printed by a program of the prover. -/
import Derived.Test.YtinmcdcmidlgpaaGreatDoorTmF37
import Derived.Test.YtinmcdcmidlgpaaGreatDoorTmVF
import Derived.Test.YtinmcdcmidlgpaaGreatDoorTmVY
import Derived.Test.YtinmcdcmidlgpaaGreatDoorTmVZ
namespace Go.Proofs.YtinmcdcmidlgpaaGreatDoor
open Go.ChangeShapes Go.WideShapes Go.ChangeAt Go.RowKit
set_option linter.unusedVariables false
set_option linter.unusedSimpArgs false
set_option maxHeartbeats 1000000
set_option maxRecDepth 100000
attribute [local irreducible] EvL Ev EvE Quiet Eff Pure RDk RDb RDo
theorem ents_ok {l : List Entry} (h : entriesOk l = true) : ∀ e ∈ l, entryOk e = true := fun e he => by
 obtain ⟨k, hk, rfl⟩ := List.mem_iff_getElem.1 he
 have := (entriesOk_iff.1 h).2 k hk
 rw [entStep_at hk] at this
 simp only [Bool.and_eq_true] at this
 exact this.1
theorem book_first {b : Book} (hb : bookOk b = true) (h : 0 < b.entries.length) : b.entries[0].index = b.base + 1 := by
 simp only [bookOk, Bool.and_eq_true] at hb
 have h6 := hb.2.2.2.2.2
 revert h6 h
 cases b.entries with
 | nil => intro h; simp at h
 | cons e es =>
  intro h h6
  simp only [Bool.and_eq_true, decide_eq_true_eq] at h6
  exact h6.1
theorem ent_ix {b : Book} (hb : bookOk b = true) : ∀ j (hj : j < b.entries.length), b.entries[j].index = b.base + 1 + j
 | 0, hj => by rw [book_first hb hj]; simp
 | j + 1, hj => by
  have h1 := (entriesOk_iff.1 (book_bd hb).2.2.2.2).2 (j + 1) hj
  rw [entStep_at hj, entOver_at hj om] at h1
  simp only [Bool.and_eq_true, decide_eq_true_eq] at h1
  have h2 := ent_ix hb j om
  have h3 : b.entries[j + 1].index = b.entries[j].index + 1 := h1.2.1
  rw [h3, h2]
  omega
theorem from_part {b : Book} (hb : bookOk b = true) (x : Int) : fromF b x = partF b x 2000 := by
 unfold fromF partF
 refine List.filter_congr fun e he => ?_
 have := entry_ix (ents_ok (book_bd hb).2.2.2.2 e he)
 by_cases h : x ≤ e.index
 ·simp [inB, h, this.2]
 ·simp [inB, h]
theorem filt_run : ∀ (l : List Entry) (a c x : Int), a ≤ c → (∀ j (hj : j < l.length), l[j].index = c + j) → l.filter (fun e => inB e.index a x) = l.take (x - c + 1).toNat
 | [], a, c, x, _, _ => by simp
 | e :: t, a, c, x, ha, h => by
  have h0 : e.index = c := by have := h 0 (by simp); simpa using this
  have ih := filt_run t a (c + 1) x om fun j hj => by
   have := h (j + 1) (by simpa using hj)
   simp only [List.getElem_cons_succ] at this
   rw [this]; omega
  by_cases hx : c ≤ x
  ·rw [List.filter_cons_of_pos (by simp [inB, h0, ha, hx]), ih, show (x - c + 1).toNat = (x - (c + 1) + 1).toNat + 1 by omega, List.take_succ_cons]
  ·rw [List.filter_cons_of_neg (by simp [inB, h0, hx]), ih, show (x - c + 1).toNat = 0 by omega, show (x - (c + 1) + 1).toNat = 0 by omega]
   simp
theorem part_take {b : Book} (hb : bookOk b = true) (x : Int) : partF b (b.base + 1) x = b.entries.take (x - b.base).toNat := by
 unfold partF
 rw [filt_run b.entries (b.base + 1) (b.base + 1) x (Int.le_refl _) (ent_ix hb), show (x - (b.base + 1) + 1).toNat = (x - b.base).toNat by omega]
theorem over_prefix {l c : List Mark} {es : List Entry} (h : overL l es = some c) (m : Nat) : ∃ c', overL l (es.take m) = some c' := by
 cases h1 : overL l (es.take m) with
 | some c' => exact ⟨c', rfl⟩
 | none =>
  have := overL_none (es := es.drop m) h1
  rw [List.take_append_drop, h] at this
  cases this
theorem over_last {l c : List Mark} {es : List Entry} {m : Nat} (hs : SOk l) (hm : m < es.length) (h : overL l (es.take (m + 1)) = some c) : lastF c = es[m].index := by
 rw [List.take_succ_eq_append_getElem hm, overL_snoc] at h
 cases h1 : overL l (es.take m) with
 | none => rw [h1] at h; cases h
 | some c' =>
  rw [h1] at h
  simp only [Option.bind_some] at h
  split at h
  ·rename_i hf
   cases h
   exact (fresh_ok (over_sok hs h1) hf).2
  ·cases h
theorem so_some {l : List Mark} {es : List Entry} (h : (seenOverF l es).2 = true) : ∃ c, overL l es = some c := by
 unfold seenOverF at h
 split at h
 ·split at h
  ·split at h
   ·rename_i c hc; exact ⟨c, hc⟩
   ·cases h
  ·cases h
 ·cases h
theorem marks_eq {l m : List Mark} (h : eqN Mark.nums l m = true) : l = m := by
 have h1 : l.map Mark.nums = m.map Mark.nums := of_decide_eq_true h
 have key : ∀ {l m : List Mark}, l.map Mark.nums = m.map Mark.nums → l = m := by
  intro l
  induction l with
  | nil => intro m h; cases m with
   | nil => rfl
   | cons _ _ => simp at h
  | cons a l ih =>
   intro m h
   cases m with
   | nil => simp at h
   | cons b m =>
    simp only [List.map_cons, List.cons.injEq] at h
    rw [Mark.ext' h.1, ih h.2]
 exact key h1
theorem next_same {n : LogN} (hf : frontF n = true) (hm : midF n = true) (hmo : n.more = true) : (inB n.next.base (n.head.base + 1) n.durable && eqHd n.next (nextF n n.next.base)) = nextOkF n := by
 simp only [frontF, Bool.and_eq_true, decide_eq_true_eq] at hf
 simp only [midF, Bool.and_eq_true] at hm
 obtain ⟨_, hh, hb, he, _⟩ := hf
 obtain ⟨hso, _, hd⟩ := hm
 have hhd := head_bd hh
 have hbd := book_bd hb
 have hdd := inB_iff.1 hd
 by_cases hx : n.head.base < n.next.base ∧ n.next.base ≤ n.durable
 ·obtain ⟨m, hm1, hm2⟩ := at_get (b := n.book) (x := n.next.base) om om
  have hs := sok_of hhd.2.2.2.2
  obtain ⟨c, hc⟩ := so_some hso
  have htk : (n.next.base - n.book.base).toNat = m + 1 := by omega
  obtain ⟨c', hc'⟩ := over_prefix hc (m + 1)
  have hSO : seenOverF n.head.seen (n.book.entries.take (m + 1)) = (c', true) := so4 hhd.2.2.2.2 (by rw [List.length_take]; omega) hc'
  have hin : inB n.next.base (n.book.base + 1) (lastB n.book) = true := inB_iff.2 ⟨by omega, by omega⟩
  have hent : entAtF n.book n.next.base = (n.book.entries[m], true) := ent_yes hb hin hm1 hm2
  have htime : timeAtF n.book n.next.base = n.book.entries[m].time := by
   unfold timeAtF
   rw [if_neg om, atB_eq hm1 hm2]
  have hin2 : inB n.next.base (n.head.base + 1) n.durable = true := inB_iff.2 ⟨by omega, by omega⟩
  have hix := ent_ix hb m hm2
  have heo := ents_ok hbd.2.2.2.2 _ (List.getElem_mem hm2)
  have hix2 := entry_ix heo
  simp only [nextOkF, hmo, if_true, hin2, Bool.true_and, eqHd, nextF, part_take hb, htk, hSO, hent, htime, hx.1, hx.2, decide_true]
  by_cases h1 : n.next.num = n.head.num + 1
  ·by_cases h2 : n.next.time = n.book.entries[m].time
   ·cases h3 : eqN Mark.nums n.next.seen c'
    ·simp
    ·have h4 := marks_eq h3
     have h5 : headOk n.next = true := by
      have hto : timeOk n.book.entries[m].time = true := by
       simp only [entryOk, Bool.and_eq_true] at heo
       exact heo.2.1
      have hla := over_last hs hm2 hc'
      have hsc := of_sok (over_sok hs hc')
      have k1 : inB n.next.base 0 2000 = true := inB_iff.2 ⟨by omega, by omega⟩
      have k2 : inB n.next.num 0 n.next.base = true := inB_iff.2 ⟨by omega, by omega⟩
      have k3 : n.next.base > 0 := by omega
      have k4 : lastF n.next.seen = n.next.base := by rw [h4, hla, hix]; omega
      simp only [headOk, k1, k2, k3, k4, h2, hto, h4, hsc]
      rw [← h4, k4]
      simp
     simp [h1, h2, h5]
   ·simp [h2]
  ·simp [h1]
 ·have hA : inB n.next.base (n.head.base + 1) n.durable = false := by
   cases h9 : inB n.next.base (n.head.base + 1) n.durable with
   | false => rfl
   | true => have := inB_iff.1 h9; omega
  rw [hA, Bool.false_and]
  simp only [nextOkF, hmo, if_true]
  by_cases h1 : n.head.base < n.next.base
  ·have h2 : ¬ n.next.base ≤ n.durable := fun h => hx ⟨h1, h⟩
   simp [h2]
  ·simp [h1]
theorem logOk_same (n : LogN) : logOkI n = logOkF n := by
 unfold logOkI logOkF
 cases hf : frontF n
 ·rfl
 ·cases hm : midF n
  ·rfl
  ·have hb : bookOk n.book = true := by
    simp only [frontF, Bool.and_eq_true] at hf
    exact hf.2.2.1
   simp only [Bool.true_and]
   have ho : eqN Ack.nums n.owe ((fromF n.book (n.durable + 1)).map ackF) = owesF n := by rw [from_part hb]; rfl
   rw [ho, Bool.and_comm]
   congr 1
   cases hmo : n.more
   ·simp [nextOkF, hmo]
   ·rw [← next_same hf hm hmo]; simp
theorem c_LogOk2 (n : LogN) : Pure Tryz.prog 46 [many (logC n)] (bR (logOkF n)) := by
 have h := c_LogOk' n
 rw [logOk_same] at h
 exact h
theorem flat_entries (l : List Entry) : ∀ cs ∈ l.map entryC, ∀ c ∈ cs, ∃ x, c = .v x := by
 intro cs h c hc
 obtain ⟨x, _, rfl⟩ := List.mem_map.1 h
 simp only [List.mem_cons, List.not_mem_nil, or_false] at hc
 rcases hc with rfl | rfl | rfl | rfl | rfl | rfl | rfl | rfl | rfl <;> exact ⟨_, rfl⟩
theorem log_facts {n : LogN} (h : logOkF n = true) : bookOk n.book = true ∧ inB n.durable n.book.base (lastB n.book) = true := by
 simp only [logOkF, frontF, midF, Bool.and_eq_true] at h
 exact ⟨h.1.2.2.1, h.2.1.2.2⟩
def heldF (n : LogN) : List Entry := if logOkF n then n.book.entries.take (n.durable - n.book.base).toNat else []
theorem held_no {n : LogN} (h : logOkF n = false) : heldF n = [] := by simp [heldF, h]
theorem held_yes {n : LogN} (h : logOkF n = true) : heldF n = n.book.entries.take (n.durable - n.book.base).toNat := by simp [heldF, h]
theorem c_heldIn0 (n : LogN) (hb : bookOk n.book = true) (hd : inB n.durable n.book.base (lastB n.book) = true) : Pure Tryz.prog 86 [many (logC n)] [one' (entriesR (n.book.entries.take (n.durable - n.book.base).toNat))] := by
 refine pure_intro (N := 15) Tryz.func86 rfl rfl rfl rfl (fun H w => ?_)
 have hbd := book_bd hb
 have hdd := inB_iff.1 hd
 have hd2 : n.durable ≤ n.book.base + n.book.entries.length := hdd.2
 refine sq (rg (evl_e (e_box rfl rfl rfl rfl) (xs rfl rfl (nl (et (sq (rg (evl_e (e_lit ttOk rfl rfl rfl) (xf ttOk rfl rfl (xf ttOk rfl rfl (xl ttOk rfl rfl (xf ttOk rfl rfl (xl ttOk rfl rfl (xf ttOk rfl rfl (xf ttOk rfl rfl (xl ttOk rfl rfl (xa rfl rfl rfl om rfl (xo (q_sl_to_map (k := (n.durable - n.book.base).toNat) ttOk rfl rfl rfl om om) rfl (evl_e (e_app_c ttOk rfl rfl rfl rfl rfl (flat_entries _) (by simp; omega) rfl rfl) (xs rfl rfl (nl (et (ev_ret (ret_pure' ttOk rfl rfl ?_))))))))))))))))))))))))
 rfl
theorem c_HeldIn' (n : LogN) : Pure Tryz.prog 29 [many (logC n)] [one' (entriesR (heldF n))] := by
 refine pure_intro (N := 8) Tryz.func29 rfl rfl rfl rfl (fun H w => ?_)
 refine sq (rg (evl_e (e_box rfl rfl rfl rfl) (xs rfl rfl (nl (et (sq (sq (rg (xl ttOk rfl rfl (evl_call (nm := 4) (cf rfl) (c_LogOk2 n) (rs_of rfl) rfl rfl rfl (xo (q_not rfl) rfl (nl (et (ev_cond_n rfl (fun h1 => ?_) (fun h1 => ?_)))))))))))))))
 ·refine sq (rg (xs rfl rfl (nl (et (ev_ret (evr_then (ret_pureN ttOk rfl rfl ?_)))))))
  first
  | (rw [held_no ‹_›]; simp [RpLe, L2, RcLe]; done)
  | (rw [held_yes ‹_›]; simp [RpLe, L2, RcLe]; done)
 ·obtain ⟨hb, hd⟩ := log_facts h1
  have hbd := book_bd hb
  have hdd := inB_iff.1 hd
  refine ev_skip (et (sq (rg (xl ttOk rfl rfl (evl_call (nm := 7) (cf rfl) (c_heldIn0 n hb hd) (rs_of rfl) rfl rfl rfl (xs rfl rfl (nl (et (ev_ret (ret_pureN ttOk rfl rfl ?_))))))))))
  first
  | (rw [held_no ‹_›]; simp [RpLe, L2, RcLe]; done)
  | (rw [held_yes ‹_›]; simp [RpLe, L2, RcLe]; done)
theorem ents_take {l : List Entry} (h : entriesOk l = true) (m : Nat) : entriesOk (l.take m) = true := by
 obtain ⟨h1, h2⟩ := entriesOk_iff.1 h
 refine entriesOk_iff.2 ⟨by rw [List.length_take]; omega, fun k hk => ?_⟩
 have hk1 : k < l.length := by rw [List.length_take] at hk; omega
 have hkm : k < m := by rw [List.length_take] at hk; omega
 have h3 := h2 k hk1
 rw [entStep_at hk1] at h3
 rw [entStep_at hk]
 cases k with
 | zero => simpa [entOver] using h3
 | succ j =>
  rw [entOver_at hk1 om] at h3
  rw [entOver_at hk om]
  simpa [List.getElem_take] using h3
theorem book_take {b : Book} (h : bookOk b = true) (m : Nat) : bookOk ⟨b.base, b.time, b.entries.take m⟩ = true := by
 have hbd := book_bd h
 have h9 := h
 simp only [bookOk, Bool.and_eq_true] at h9 ⊢
 refine ⟨h9.1, h9.2.1, h9.2.2.1, by rw [List.length_take]; simp; omega, ents_take hbd.2.2.2.2 m, ?_⟩
 have h6 := h9.2.2.2.2.2
 revert h6
 cases b.entries with
 | nil => intro _; simp
 | cons e es =>
  intro h6
  cases m with
  | zero => simp
  | succ m => simpa using h6
theorem c_copyBook (b : Book) (h : b.entries.length ≤ 1048576) : Pure Tryz.prog 141 [many (bookC b)] [many' (bookR b)] := by
 refine pure_intro (N := 12) Tryz.func141 rfl rfl rfl rfl (fun H w => ?_)
 refine sq (rg (evl_e (e_box rfl rfl rfl rfl) (evl_e (e_alloc ttOk rfl rfl rfl rfl) (nl (et (sq ?_))))))
 refine ev_freeze (cs := bookC b) 1 rfl (fun H2 hH2 => ?_)
 show Ev _ _ _ _ (⟨[(2, .p false [.pb 2 0]), (1, .p false [.pe [iC b.base, iC b.time, entries b.entries]]), (0, .p true [.c (iC b.base), .c (iC b.time), .c (entries b.entries)])], [(2, 52, [.c (iC 0), .c (iC 0), .c .nil])], [], []⟩ : St)
 refine ev_drawh mo (rdh_take 0 rfl kr trivial (QuietW.h (qw_fieldAddr ttOk rfl)) rfl (rdh_take 1 rfl kr trivial (q_loadH ttOk rfl rfl) rfl (rdh_take 2 rfl kr trivial (QuietW.h (qw_fieldAddr ttOk rfl)) rfl (rdh_take 3 rfl kr trivial (q_loadH ttOk rfl rfl) rfl (rdh_take 5 rfl kr trivial (QuietW.h (qw_fieldAddr ttOk rfl)) rfl (rdh_take 6 rfl kr trivial (q_loadH ttOk rfl rfl) rfl (rdh_one 4 rfl kr trivial (e_lit ttOk rfl rfl rfl) (rdh_one 7 rfl kr trivial (e_app_c ttOk rfl rfl rfl rfl rfl (flat_entries _) (by simp; omega) rfl rfl) (rdh_q 8 rfl kr trivial (q_build ttOk rfl) rfl (rdh_one 9 rfl kr trivial (e_store ttOk rfl) (rdh_endq kr ?_)))))))))))
 refine et (ev_ret ?_)
 exact retH rfl (ret_pure' ttOk rfl rfl rfl)
def pk (F : List Int) (i : Nat) : Nat → List Int
 | 0 => []
 | k + 1 => pk F i k ++ [F.getD (i + 2 * k) 0]
theorem pk_len (F : List Int) (i : Nat) : ∀ k, (pk F i k).length = k
 | 0 => rfl
 | k + 1 => by simp [pk, pk_len F i k]
theorem pk_at (F : List Int) (i : Nat) : ∀ m k, k < m → (pk F i m).getD k 0 = F.getD (i + 2 * k) 0
 | 0, k, h => by omega
 | m + 1, k, h => by
  have hl := pk_len F i m
  simp only [pk, List.getD_eq_getElem?_getD]
  rcases Nat.lt_or_ge k m with h1 | h1
  ·rw [List.getElem?_append_left om]
   have := pk_at F i m k h1
   simpa only [List.getD_eq_getElem?_getD] using this
  ·have : k = m := by omega
   subst this
   rw [List.getElem?_append_right om, hl]
   simp
theorem fate_pk {F : List Int} {i m k : Nat} (h : k < m ∨ F.length ≤ i + 2 * k) : fateAt (pk F i m) k = F.getD (i + 2 * k) 0 := by
 unfold fateAt
 rcases Nat.lt_or_ge k m with h1 | h1
 ·exact pk_at F i m k h1
 ·have h2 : F.length ≤ i + 2 * k := by omega
  simp only [List.getD_eq_getElem?_getD]
  rw [List.getElem?_eq_none (by rw [pk_len]; omega), List.getElem?_eq_none h2]
theorem fallUp_congr {d : Disk} {F G : List Int} {all : Bool} : ∀ k, (∀ j, j < k → fateAt F j = fateAt G j) → fallUp d F all k = fallUp d G all k
 | 0, _ => rfl
 | k + 1, h => by
  simp only [fallUp]
  rw [fallUp_congr k fun j hj => h j om, h k om]
theorem fallF_congr {d : Disk} {F G : List Int} {all : Bool} (h : ∀ j, j < 60 → fateAt F j = fateAt G j) : fallF d F all = fallF d G all := by
 cases hd : diskOk d
 ·rw [fall_no hd, fall_no hd]
 ·rw [fall_yes hd, fall_yes hd, fallUp_congr]
  intro j hj
  exact h j (by have := (diskOk_sizes hd).2.1; omega)
def halfN (F : List Int) (i : Nat) : Nat := (F.length + 1 - i) / 2
def half (F : List Int) (i : Nat) : List Int := pk F i (halfN F i)
def half60 (F : List Int) (i : Nat) : List Int := pk F i (min 60 (halfN F i))
theorem half_fall {d : Disk} {F : List Int} {i : Nat} : fallF d (half60 F i) false = fallF d (half F i) false := by
 refine fallF_congr fun j hj => ?_
 unfold half60 half halfN
 rw [fate_pk om, fate_pk om]
theorem pk_snoc {F : List Int} {i k m : Nat} (h : m = i + 2 * k) (hm : m < F.length) : pk F i k ++ [F[m]] = pk F i (k + 1) := by
 subst h
 simp only [pk]
 rw [List.getD_eq_getElem?_getD, List.getElem?_eq_getElem hm]
 rfl
def bothFallenF (t : Two) (F : List Int) : Two := if twoOk t then ⟨fallF t.a (half F 0) false, fallF t.b (half F 1) false⟩ else zeroT
theorem bf_no {t : Two} {F : List Int} (h : twoOk t = false) : bothFallenF t F = zeroT := by simp [bothFallenF, h]
theorem bf_yes {t : Two} {F : List Int} (h : twoOk t = true) : bothFallenF t F = ⟨fallF t.a (half F 0) false, fallF t.b (half F 1) false⟩ := by simp [bothFallenF, h]
theorem bf_yes60 {t : Two} {F : List Int} (h : twoOk t = true) : bothFallenF t F = ⟨fallF t.a (half60 F 0) false, fallF t.b (half60 F 1) false⟩ := by rw [bf_yes h, half_fall, half_fall]
def zeroL : LogN := ⟨zeroT, noHead, noHead, false, ⟨0, 0, []⟩, [], 0, []⟩
def fallenLogF (n : LogN) (F : List Int) : LogN := if logOkF n then ⟨bothFallenF n.two F, noHead, noHead, false, ⟨0, 0, []⟩, [], 0, []⟩ else zeroL
theorem fl_no {n : LogN} {F : List Int} (h : logOkF n = false) : fallenLogF n F = zeroL := by simp [fallenLogF, h]
theorem fl_yes {n : LogN} {F : List Int} (h : logOkF n = true) : fallenLogF n F = ⟨bothFallenF n.two F, noHead, noHead, false, ⟨0, 0, []⟩, [], 0, []⟩ := by simp [fallenLogF, h]
theorem c_BothFallen' (t : Two) (F : List Int) (hF : F.length ≤ 1048576) : Pure Tryz.prog 106 [many (twoC t), one (ints F)] [many' (twoR (bothFallenF t F))] := by
 refine pure_intro (N := 51) Tryz.func106 rfl rfl rfl rfl (fun H w => ?_)
 refine ev_lenm (t := 1) rfl (fun hL => ?_)
 refine sq (rg (evl_e (e_box rfl rfl rfl rfl) (evl_e (e_alloc ttOk rfl rfl rfl rfl) (nl (et (sq (sq (rg (xl ttOk rfl rfl (evl_call (nm := 12) (cf rfl) (c_TwoOk' t) (rs_of rfl) rfl rfl rfl (xo (q_not rfl) rfl (nl (et (ev_cond_n rfl (fun h1 => ?_) (fun h1 => ?_)))))))))))))))
 ·try have d1 := of_decide_eq_false h1
  refine sq (rg (xo (q_build ttOk rfl) rfl (xst ttOk rfl rfl (nl (et (ev_ret (evr_then (ret_pureN ttOk rfl rfl ?_))))))))
  first
  | (rw [bf_no ‹_›]; simp [RpLe, L2, RcLe, zeroD, zeroT]; done)
  | (rw [bf_yes60 ‹_›]; simp [RpLe, L2, RcLe]; done)
  | (rw [bf_yes ‹_›]; simp [RpLe, L2, RcLe, half, halfN]; done)
 ·try have d1 := of_decide_eq_true h1
  refine ev_skip (et (sq (rg (xo (q_build ttOk rfl) rfl (evl_e (e_alloc ttOk rfl rfl rfl rfl) (xst ttOk rfl rfl (nl (et (sq (sq (ev_adopt (b := 5) 0 101 2 1 rfl rfl rfl rfl rfl (ev_adopt (b := 5) 1 102 2 1 rfl rfl rfl rfl rfl (rg (xm rfl rfl (xo (q_len_map ttOk rfl rfl) rfl (xm rfl rfl (nl (et (ev_blk (ev_loop (fun k : Nat => (⟨[(18, iV k), (16, cV (ints F)), (17, iV F.length), (5, pbV 5 0), (2, pbV 2 0), (4, pbV 4 0)], [(5, 224, [.rt 101, .rt 102]), (4, 46, [.c .nil, .c .nil, .c .nil, .c .nil]), (2, 46, [.c (rows t.a.kept), .c (writes t.a.wait), .c (rows t.b.kept), .c (writes t.b.wait)])], [(101, 2, 1, ((pk F 0 ((k + 1) / 2)).map fun x => [iC x])), (102, 2, 1, ((pk F 1 (k / 2)).map fun x => [iC x]))], []⟩ : St)) (fun k => k ≤ F.length) (fun k => F.length - k) 0 [] (by simp) ⟨trf, trf, ⟨⟨_, rfl, by rfl⟩, ⟨_, rfl, by rfl⟩, trivial⟩, tre, rfl⟩ ?_))))))))))))))))))))
  intro k hp
  have p0 := hp
  show Ev _ _ _ _ (⟨[(18, iV k), (16, cV (ints F)), (17, iV F.length), (5, pbV 5 0), (2, pbV 2 0), (4, pbV 4 0)], [(5, 224, [.rt 101, .rt 102]), (4, 46, [.c .nil, .c .nil, .c .nil, .c .nil]), (2, 46, [.c (rows t.a.kept), .c (writes t.a.wait), .c (rows t.b.kept), .c (writes t.b.wait)])], [(101, 2, 1, ((pk F 0 ((k + 1) / 2)).map fun x => [iC x])), (102, 2, 1, ((pk F 1 (k / 2)).map fun x => [iC x]))], []⟩ : St)
  have hpl0 := pk_len F 0 ((k + 1) / 2)
  have hpl1 := pk_len F 1 (k / 2)
  refine sq (rg (xb ttOk rfl rfl (nl (et (sq (ev_cond rfl (fun h2 => ?_) (fun h2 => ?_)))))))
  ·try have d2 := of_decide_eq_true h2
   refine ev_skip (et (sq (ev_blk (sq (rg (xm rfl rfl (xo (q_ix_map ttOk rfl rfl rfl rfl om) rfl (xl ttOk rfl rfl (xs rfl rfl (xs rfl rfl (nl (et ?_))))))))))))
   rcases Nat.mod_two_eq_zero_or_one k with hpar | hpar
   ·refine rg (xm rfl rfl ?_)
    first | refine xo (q_rem_pos rfl rfl om) rfl ?_ | refine xo (q_rem rfl rfl om) rfl ?_
    refine xm rfl rfl ?_
    first | refine xo (q_rem_pos rfl rfl om) rfl ?_ | refine xo (q_rem rfl rfl om) rfl ?_
    first | refine xo (q_ix_arr 0 ttOk rfl rfl om) rfl ?_ | refine xo (q_ix_arr 1 ttOk rfl rfl om) rfl ?_
    refine xl ttOk rfl rfl (xm rfl rfl (evl_e (e_lit ttOk rfl rfl rfl) (evl_e (e_app ttOk rfl rfl rfl rfl rfl rfl rfl (by simp; omega) rfl rfl) ?_)))
    first | refine xo (q_ix_arr 0 ttOk rfl rfl om) rfl ?_ | refine xo (q_ix_arr 1 ttOk rfl rfl om) rfl ?_
    refine xst ttOk rfl rfl (nl (eb (et (rg (xa rfl rfl rfl om rfl (xm rfl rfl (nl (eve_round (k + 1) [(101, 31)] ?hp ⟨trf, trf, ⟨⟨_, rfl, by rw [show (k + 1 + 1) / 2 = (k + 1) / 2 + 1 by omega, ← pk_snoc (m := k) om om]; simp⟩, ⟨_, rfl, by rw [show (k + 1) / 2 = k / 2 by omega]⟩, trivial⟩, tre, rfl⟩))))))))
    case hp => exact ⟨by omega, by omega⟩
   ·refine rg (xm rfl rfl ?_)
    first | refine xo (q_rem_pos rfl rfl om) rfl ?_ | refine xo (q_rem rfl rfl om) rfl ?_
    refine xm rfl rfl ?_
    first | refine xo (q_rem_pos rfl rfl om) rfl ?_ | refine xo (q_rem rfl rfl om) rfl ?_
    first | refine xo (q_ix_arr 0 ttOk rfl rfl om) rfl ?_ | refine xo (q_ix_arr 1 ttOk rfl rfl om) rfl ?_
    refine xl ttOk rfl rfl (xm rfl rfl (evl_e (e_lit ttOk rfl rfl rfl) (evl_e (e_app ttOk rfl rfl rfl rfl rfl rfl rfl (by simp; omega) rfl rfl) ?_)))
    first | refine xo (q_ix_arr 0 ttOk rfl rfl om) rfl ?_ | refine xo (q_ix_arr 1 ttOk rfl rfl om) rfl ?_
    refine xst ttOk rfl rfl (nl (eb (et (rg (xa rfl rfl rfl om rfl (xm rfl rfl (nl (eve_round (k + 1) [(102, 31)] ?hp ⟨trf, trf, ⟨⟨_, rfl, by rw [show (k + 1 + 1) / 2 = (k + 1) / 2 by omega]⟩, ⟨_, rfl, by rw [show (k + 1) / 2 = k / 2 + 1 by omega, ← pk_snoc (m := k) om om]; simp⟩, trivial⟩, tre, rfl⟩))))))))
    case hp => exact ⟨by omega, by omega⟩
  ·try have d2 := of_decide_eq_false h2
   refine ev_exit (evx_then (evx_then (evx_hit (et (sq ?_)))))
   obtain rfl : k = F.length := by omega
   refine rg (xl ttOk rfl rfl (evl_callv (cf rfl) hands_disks rfl rfl rfl rfl (evl_e (e_alloc ttOk rfl rfl rfl rfl) (xst ttOk rfl rfl (nl (et (sq (sq (rg (xl ttOk rfl rfl (xm rfl rfl (nl (et (ev_blk (ev_rounds 2 (sq (rg (xb ttOk rfl rfl (nl (et (sq (ev_cond_kt rfl (by first | rfl | assumption | exact nt ‹_› | exact nf ‹_›) (ev_skip (et (sq (ev_blk (sq (rg (xm rfl rfl ?_)))))))))))))))))))))))))))))
   first | refine xo (q_index 0 ttOk rfl rfl om) rfl ?_ | refine xo (q_index 1 ttOk rfl rfl om) rfl ?_
   refine evl_e (e_alloc ttOk rfl rfl rfl rfl) (xs rfl rfl (xst ttOk rfl rfl (nl (et (ev_drawq [7] mo (rk0 0 rfl (q_move rfl) rfl (rk0 1 rfl (q_load ttOk rfl) rfl (rk0 2 rfl (q_move rfl) rfl ?_))))))))
   first | refine rk0 3 rfl (q_ix_arr 0 ttOk rfl rfl om) rfl ?_ | refine rk0 3 rfl (q_ix_arr 1 ttOk rfl rfl om) rfl ?_
   refine rk0 4 rfl (q_load ttOk rfl) rfl (rdk_one 5 kr ?_)
   first | refine rdo_call (nm := 46) rfl trivial (cf rfl) (c_Fallen' t.a (pk F 0 ((F.length + 1) / 2))) (rs_of rfl) rfl rfl rfl ?_ | refine rdo_call (nm := 46) rfl trivial (cf rfl) (c_Fallen' t.b (pk F 1 (F.length / 2))) (rs_of rfl) rfl rfl rfl ?_
   first | refine rk0 6 rfl (q_ix_arr 0 ttOk rfl rfl om) rfl ?_ | refine rk0 6 rfl (q_ix_arr 1 ttOk rfl rfl om) rfl ?_
   refine rdk_one 7 kr (rdo_brk rfl rfl trivial (e_store ttOk rfl) (rdb_endq kr (eb (et (rg (xa rfl rfl rfl om rfl (xm rfl rfl (nl (eve_again (ev_pr [2, 4, 5, 8, 36, 37] rfl (ev_remB [10] rfl (sq (rg (xb ttOk rfl rfl (nl (et (sq (ev_cond_kt rfl (by first | rfl | assumption | exact nt ‹_› | exact nf ‹_›) (ev_skip (et (sq (ev_blk (sq (rg (xm rfl rfl ?_)))))))))))))))))))))))))
   first | refine xo (q_index 0 ttOk rfl rfl om) rfl ?_ | refine xo (q_index 1 ttOk rfl rfl om) rfl ?_
   refine evl_e (e_alloc ttOk rfl rfl rfl rfl) (xs rfl rfl (xst ttOk rfl rfl (nl (et (ev_drawq [7] mo (rk0 0 rfl (q_move rfl) rfl (rk0 1 rfl (q_load ttOk rfl) rfl (rk0 2 rfl (q_move rfl) rfl ?_))))))))
   first | refine rk0 3 rfl (q_ix_arr 0 ttOk rfl rfl om) rfl ?_ | refine rk0 3 rfl (q_ix_arr 1 ttOk rfl rfl om) rfl ?_
   refine rk0 4 rfl (q_load ttOk rfl) rfl (rdk_one 5 kr ?_)
   first | refine rdo_call (nm := 1000046) rfl trivial (cf rfl) (c_Fallen' t.a (pk F 0 ((F.length + 1) / 2))) (rs_of rfl) rfl rfl rfl ?_ | refine rdo_call (nm := 1000046) rfl trivial (cf rfl) (c_Fallen' t.b (pk F 1 (F.length / 2))) (rs_of rfl) rfl rfl rfl ?_
   first | refine rk0 6 rfl (q_ix_arr 0 ttOk rfl rfl om) rfl ?_ | refine rk0 6 rfl (q_ix_arr 1 ttOk rfl rfl om) rfl ?_
   refine rdk_one 7 kr (rdo_brk rfl rfl trivial (e_store ttOk rfl) (rdb_endq kr (eb (et (rg (xa rfl rfl rfl om rfl (xm rfl rfl (nl (eve_again (ev_pr [2, 4, 5, 8, 36, 37] rfl (ev_remB [10] rfl (sq (rg (xb ttOk rfl rfl (nl (et (sq (ev_cond_kf rfl (by first | rfl | assumption | exact nt ‹_› | exact nf ‹_›) (ev_exit (evx_then (evx_then (evx_hit (et (sq (rg (xl ttOk rfl rfl (evl_callv (cf rfl) hands_twoOf rfl rfl rfl rfl (xst ttOk rfl rfl (nl (et (ev_ret (ret_pureN ttOk rfl rfl ?_))))))))))))))))))))))))))))))))
   first
   | (rw [bf_no ‹_›]; simp [RpLe, L2, RcLe, zeroD, zeroT]; done)
   | (rw [bf_yes60 ‹_›]; simp [RpLe, L2, RcLe]; done)
   | (rw [bf_yes ‹_›]; simp [RpLe, L2, RcLe, half, halfN]; done)
theorem c_FallenLog' (n : LogN) (F : List Int) (hF : F.length ≤ 1048576) : Pure Tryz.prog 34 [many (logC n), one (ints F)] [many' (logR (fallenLogF n F))] := by
 refine pure_intro (N := 14) Tryz.func34 rfl rfl rfl rfl (fun H w => ?_)
 refine sq (rg (evl_e (e_box rfl rfl rfl rfl) (evl_e (e_alloc ttOk rfl rfl rfl rfl) (nl (et (sq (sq (rg (xl ttOk rfl rfl (evl_call (nm := 6) (cf rfl) (c_LogOk2 n) (rs_of rfl) rfl rfl rfl (xo (q_not rfl) rfl (nl (et (ev_cond_n rfl (fun h1 => ?_) (fun h1 => ?_)))))))))))))))
 ·refine sq (rg (xo (q_build ttOk rfl) rfl (xst ttOk rfl rfl (nl (et (ev_ret (evr_then (ret_pureN ttOk rfl rfl ?_))))))))
  first
  | (rw [fl_no ‹_›]; simp [RpLe, L2, RcLe, zeroL, zeroD, zeroT, noHead]; done)
  | (rw [fl_yes ‹_›]; simp [RpLe, L2, RcLe, noHead]; done)
 ·refine ev_skip (et (sq (rg (xf ttOk rfl rfl (xl ttOk rfl rfl (xm rfl rfl (evl_call (nm := 12) (cf rfl) (c_BothFallen' n.two F hF) (rs_of rfl) rfl rfl rfl (xo (q_build ttOk rfl) rfl (xst ttOk rfl rfl (nl (et (ev_ret (ret_pureN ttOk rfl rfl ?_)))))))))))))
  first
  | (rw [fl_no ‹_›]; simp [RpLe, L2, RcLe, zeroL, zeroD, zeroT, noHead]; done)
  | (rw [fl_yes ‹_›]; simp [RpLe, L2, RcLe, noHead]; done)
theorem getD_set {α : Type} {l : List α} {i j : Nat} {x d : α} (hi : i < l.length) : (l.set i x).getD j d = if i = j then x else l.getD j d := by
 simp only [List.getD_eq_getElem?_getD, List.getElem?_set]
 split
 ·rename_i e
  subst e
  simp [hi]
 ·rfl
theorem rowOk_of {l : List Int} (h1 : l.length ≤ 48) (h2 : NumsOk l) : rowOk l = true := by
 simp only [rowOk, Bool.and_eq_true, decide_eq_true_eq, List.all_eq_true]
 exact ⟨h1, h2⟩
theorem rowOk_torn {a b : List Int} (ha : rowOk a = true) (hb : rowOk b = true) : rowOk (tornF a b) = true := by
 obtain ⟨h1, h2⟩ := rowOk_nums ha
 obtain ⟨h3, h4⟩ := rowOk_nums hb
 refine rowOk_of ?_ fun x hx => ?_
 ·simp only [tornF, List.length_append, List.length_take, List.length_drop]; omega
 ·rcases List.mem_append.1 hx with hx | hx
  ·exact h2 x (List.mem_of_mem_take hx)
  ·exact h4 x (List.mem_of_mem_drop hx)
theorem rowOk_nil : rowOk [] = true := by decide
theorem wait_ok {d : Disk} (h : diskOk d = true) {k : Nat} (hk : k < d.wait.length) : hasAt d d.wait[k].1 = true ∧ rowOk d.wait[k].2 = true := by
 have := (diskOk_sizes h).2.2.2.2 _ (List.getElem_mem hk)
 simp only [writeOk, Bool.and_eq_true] at this
 exact this
theorem fallUp_ok {d : Disk} (h : diskOk d = true) (F : List Int) (all : Bool) : ∀ k, k ≤ d.wait.length → ∀ r ∈ fallUp d F all k, rowOk r = true
 | 0, _ => fun r hr => (diskOk_sizes h).2.2.2.1 r hr
 | k + 1, hk => fun r hr => by
  have ih := fallUp_ok h F all k om
  have hw := wait_ok h (k := k) om
  rw [show fallUp d F all (k + 1) = fallStep (fateAt F k) all (fallUp d F all k) d.wait[k] by simp only [fallUp]; rw [getD_lenW (show k < d.wait.length by omega)]] at hr
  have key : ∀ z : List Int, rowOk z = true → r ∈ (fallUp d F all k).set d.wait[k].1.toNat z → rowOk r = true := fun z hz hm => by
   rcases List.mem_or_eq_of_mem_set hm with h9 | h9
   ·exact ih r h9
   ·rw [h9]; exact hz
  simp only [fallStep] at hr
  split at hr
  ·exact key _ hw.2 hr
  ·split at hr
   ·refine key _ (rowOk_torn hw.2 ?_) hr
    rw [List.getD_eq_getElem?_getD]
    cases h9 : (fallUp d F all k)[d.wait[k].1.toNat]? with
    | none => exact rowOk_nil
    | some r9 => exact ih r9 (List.mem_of_getElem? h9)
   ·exact ih r hr
theorem fall_ok {d : Disk} (h : diskOk d = true) (F : List Int) (all : Bool) : diskOk (fallF d F all) = true := by
 rw [fall_yes h]
 have h1 := diskOk_sizes h
 have h2 := fallUp_len d F all d.wait.length
 simp only [diskOk, Bool.and_eq_true, decide_eq_true_eq, List.all_eq_true, List.length_nil]
 exact ⟨by omega, by omega, by omega, fun r hr => fallUp_ok h F all _ (Nat.le_refl _) r hr, by simp⟩
theorem fall_len {d : Disk} (h : diskOk d = true) (F : List Int) (all : Bool) : (fallF d F all).kept.length = d.kept.length := by
 rw [fall_yes h]; exact fallUp_len d F all _
theorem lastW_snoc {l : List (Int × List Int)} {y : Int × List Int} {x : Int} : lastW (l ++ [y]) x = if y.1 = x then some y.2 else lastW l x := by simp [lastW, List.foldl_append]
theorem sync_at {d : Disk} (h : diskOk d = true) {x : Int} (hx : 0 ≤ x) : ∀ k, k ≤ d.wait.length → (fallUp d [] true k).getD x.toNat [] = (lastW (d.wait.take k) x).getD (d.kept.getD x.toNat [])
 | 0, _ => by simp [fallUp, lastW]
 | k + 1, hk => by
  have ih := sync_at h hx k om
  have hw := wait_at h (k := k) om
  have hl := fallUp_len d [] true k
  rw [show fallUp d [] true (k + 1) = (fallUp d [] true k).set d.wait[k].1.toNat d.wait[k].2 by simp only [fallUp]; rw [getD_lenW (show k < d.wait.length by omega)]; simp [fallStep], getD_set om, List.take_succ_eq_append_getElem om, lastW_snoc]
  by_cases e : d.wait[k].1 = x
  ·rw [if_pos e, if_pos (by rw [e])]; rfl
  ·rw [if_neg e, if_neg om, ih]
theorem sync_read {d : Disk} {x : Int} : readF (fallF d [] true) x = readF d x := by
 cases h : diskOk d
 ·rw [fall_no h, read_no1 h, read_no1 (by decide)]
 ·cases hh : hasAt d x
  ·rw [read_no2 hh, read_no2]
   have := fall_len h [] true
   unfold hasAt at hh ⊢
   rw [this]
   exact hh
  ·have hx := hasAt_iff.1 hh
   have h1 : hasAt (fallF d [] true) x = true := by
    rw [hasAt_iff, fall_len h]; exact hx
   have h2 := sync_at h hx.1 d.wait.length (Nat.le_refl _)
   rw [List.take_length] at h2
   unfold readF
   rw [fall_ok h, h1, h, hh, fall_yes h]
   simp only [Bool.and_self, if_true]
   rw [← h2]
   rfl
theorem twoOk_iff {t : Two} : twoOk t = true ↔ diskOk t.a = true ∧ diskOk t.b = true ∧ t.a.kept.length = t.b.kept.length := by simp [twoOk]
theorem bsync_ok {t : Two} (h : twoOk t = true) : twoOk (bothSyncF t) = true := by
 obtain ⟨h1, h2, h3⟩ := twoOk_iff.1 h
 rw [bsync_yes h]
 exact twoOk_iff.2 ⟨fall_ok h1 _ _, fall_ok h2 _ _, by rw [fall_len h1, fall_len h2, h3]⟩
theorem bfall_ok {t : Two} {F : List Int} (h : twoOk t = true) : twoOk (bothFallenF t F) = true := by
 obtain ⟨h1, h2, h3⟩ := twoOk_iff.1 h
 rw [bf_yes h]
 exact twoOk_iff.2 ⟨fall_ok h1 _ _, fall_ok h2 _ _, by rw [fall_len h1, fall_len h2, h3]⟩
theorem right_sync {t : Two} {x : Int} : rightF (bothSyncF t) x = rightF t x := by
 cases h : twoOk t
 ·rw [bsync_no h, right_no1 h, right_no1 (by decide)]
 ·have h0 := bsync_ok h
  unfold rightF
  rw [h0, h, bsync_yes h]
  simp only [sync_read, Bool.true_and]
  have : hasAt (fallF t.a [] true) x = hasAt t.a x := by unfold hasAt; rw [fall_len (twoOk_both h).1]
  rw [this]
theorem keptOk_iff {t : Two} : keptOk t = true ↔ twoOk t = true ∧ t.a.kept.length = 22 := by simp [keptOk]
theorem kept_sync {t : Two} : keptOk (bothSyncF t) = keptOk t := by
 cases h : twoOk t
 ·rw [bsync_no h]
  unfold keptOk
  rw [h]
  rfl
 ·unfold keptOk
  rw [h, bsync_ok h, bsync_yes h]
  simp only [fall_len (twoOk_both h).1]
theorem headUp_sync {t : Two} : ∀ k, headUp (bothSyncF t) k = headUp t k
 | 0 => rfl
 | k + 1 => by simp only [headUp, right_sync, headUp_sync k]
theorem headIn_sync {t : Two} : headIn (bothSyncF t) = headIn t := by
 unfold headIn
 rw [kept_sync, headUp_sync]
theorem log_all {n : LogN} (h : logOkF n = true) : keptOk n.two = true ∧ headOk n.head = true ∧ bookOk n.book = true ∧ n.book.base = n.head.base ∧ n.book.time = n.head.time := by
 simp only [logOkF, frontF, Bool.and_eq_true, decide_eq_true_eq] at h
 exact ⟨h.1.1, h.1.2.1, h.1.2.2.1, h.1.2.2.2.1, h.1.2.2.2.2⟩
theorem log_parts {n : LogN} (h : logOkF n = true) : frontF n = true ∧ midF n = true ∧ owesF n = true ∧ (if n.more then inB n.next.base (n.head.base + 1) n.durable && eqHd n.next (nextF n n.next.base) else eqHd n.next noHead) = true := by
 simp only [logOkF, Bool.and_eq_true] at h
 exact h
theorem log_seen {n : LogN} (h : logOkF n = true) : overL n.head.seen n.book.entries = some n.seen ∧ SOk n.head.seen ∧ SOk n.seen := by
 obtain ⟨_, hh, hb, _⟩ := log_all h
 have hm := (log_parts h).2.1
 simp only [midF, Bool.and_eq_true] at hm
 obtain ⟨c, hc⟩ := so_some hm.1
 have hs := sok_of (head_bd hh).2.2.2.2
 have e := so4 (of_sok hs) (by have := book_bd hb; omega) hc
 rw [e] at hm
 have := marks_eq hm.2.1
 simp only at this
 rw [← this]
 exact ⟨hc, hs, over_sok hs hc⟩
theorem eqHd_eq {a b : Head} (h : eqHd a b = true) : a = b := by
 simp only [eqHd, Bool.and_eq_true, decide_eq_true_eq] at h
 obtain ⟨h1, h2, h3, h4⟩ := h
 have := marks_eq h4
 cases a
 cases b
 simp_all
theorem log_next {n : LogN} (h : logOkF n = true) (hm : n.more = true) : headOk n.next = true ∧ n.head.base < n.next.base ∧ n.next.base ≤ n.durable ∧ n.next = nextF n n.next.base := by
 obtain ⟨h1, h2, h3, h4⟩ := log_parts h
 have h5 := next_same h1 h2 hm
 rw [if_pos hm] at h4
 rw [h4] at h5
 have h6 := h5.symm
 simp only [nextOkF, hm, if_true, Bool.and_eq_true] at h6
 simp only [Bool.and_eq_true] at h4
 have h7 := inB_iff.1 h4.1
 exact ⟨h6.1, by omega, by omega, eqHd_eq h4.2⟩
theorem log_less {n : LogN} (h : logOkF n = true) (hm : n.more = false) : n.next = noHead := by
 have h4 := (log_parts h).2.2.2
 rw [hm] at h4
 exact eqHd_eq h4
theorem acks_eq {l m : List Ack} (h : eqN Ack.nums l m = true) : l = m := by
 have h1 : l.map Ack.nums = m.map Ack.nums := of_decide_eq_true h
 have key : ∀ {l m : List Ack}, l.map Ack.nums = m.map Ack.nums → l = m := by
  intro l
  induction l with
  | nil => intro m h; cases m with
   | nil => rfl
   | cons _ _ => simp at h
  | cons a l ih =>
   intro m h
   cases m with
   | nil => simp at h
   | cons b m =>
    simp only [List.map_cons, List.cons.injEq] at h
    rw [Ack.ext' h.1, ih h.2]
 exact key h1
theorem log_owe {n : LogN} (h : logOkF n = true) : n.owe = (partF n.book (n.durable + 1) 2000).map ackF := acks_eq (log_parts h).2.2.1
theorem log_small {n : LogN} (h : logOkF n = true) : n.head.seen.length ≤ 4 ∧ n.next.seen.length ≤ 4 ∧ n.book.entries.length ≤ 20 ∧ n.seen.length ≤ 4 ∧ n.owe.length ≤ 20 := by
 obtain ⟨hk, hh, hb, _⟩ := log_all h
 have h1 := book_bd hb
 refine ⟨seen_len (head_bd hh).2.2.2.2, ?_, h1.2.2.1, seen_len (of_sok (log_seen h).2.2), ?_⟩
 ·cases hm : n.more
  ·rw [log_less h hm]; decide
  ·exact seen_len (head_bd (log_next h hm).1).2.2.2.2
 ·rw [log_owe h, List.length_map]
  have : (partF n.book (n.durable + 1) 2000).length ≤ n.book.entries.length := List.length_filter_le _ _
  omega
theorem log_two {n : LogN} (h : logOkF n = true) : twoOk n.two = true := (keptOk_iff.1 (log_all h).1).1
theorem flat_acks (l : List Ack) : ∀ cs ∈ l.map ackC, ∀ c ∈ cs, ∃ x, c = .v x := by
 intro cs h c hc
 obtain ⟨x, _, rfl⟩ := List.mem_map.1 h
 simp only [List.mem_cons, List.not_mem_nil, or_false] at hc
 rcases hc with rfl | rfl | rfl | rfl <;> exact ⟨_, rfl⟩
theorem c_copyHead (h : Head) (hs : h.seen.length ≤ 1048576) : Pure Tryz.prog 140 [many (headC h)] [many' (headR h)] := by
 refine pure_intro (N := 13) Tryz.func140 rfl rfl rfl rfl (fun H w => ?_)
 refine sq (rg (evl_e (e_box rfl rfl rfl rfl) (evl_e (e_alloc ttOk rfl rfl rfl rfl) (nl (et (sq (ev_drawq [10] mo (rk0 0 rfl (q_fieldAddr ttOk rfl) rfl (rk0 1 rfl (q_load ttOk rfl) rfl (rk0 2 rfl (q_fieldAddr ttOk rfl) rfl (rk0 3 rfl (q_load ttOk rfl) rfl (rk0 4 rfl (q_fieldAddr ttOk rfl) rfl (rk0 5 rfl (q_load ttOk rfl) rfl (rk0 6 rfl (q_fieldAddr ttOk rfl) rfl (rk0 7 rfl (q_load ttOk rfl) rfl (rdk_one 8 kr (rdo_call (nm := 11) rfl trivial (cf rfl) (c_copySeen h.seen hs) (rs_of rfl) rfl rfl rfl (rk0 9 rfl (q_build ttOk rfl) rfl (rdk_one 10 kr (rdo_brk rfl rfl trivial (e_store ttOk rfl) (rdb_endq kr (et (ev_ret (ret_pure' ttOk rfl rfl ?_))))))))))))))))))))))))
 rfl
theorem c_copyLog (n : LogN) (h : logOkF n = true) : Pure Tryz.prog 62 [many (logC n)] [many' (logR (n))] := by
 refine pure_intro (N := 27) Tryz.func62 rfl rfl rfl rfl (fun H w => ?_)
 have hsm := log_small h
 refine sq (rg (evl_e (e_box rfl rfl rfl rfl) (evl_e (e_alloc ttOk rfl rfl rfl rfl) (nl (et (sq (ev_frz (cs := logC n) 1 rfl rfl rfl (fun HF1_0 hHF1_0 => ?_))))))))
 refine' ev_drawhJ mo ?hdr1 ?kdr1
 case hdr1 =>
  refine rdh_take 0 rfl kr trivial (QuietW.h (qw_fieldAddr ttOk rfl)) rfl (rdh_take 1 rfl kr trivial (q_loadH ttOk rfl rfl) rfl (rdh_take 3 rfl kr trivial (QuietW.h (qw_fieldAddr ttOk rfl)) rfl (rdh_take 4 rfl kr trivial (q_loadH ttOk rfl rfl) rfl (rdh_take 6 rfl kr trivial (QuietW.h (qw_fieldAddr ttOk rfl)) rfl (rdh_take 7 rfl kr trivial (q_loadH ttOk rfl rfl) rfl (rdh_take 9 rfl kr trivial (QuietW.h (qw_fieldAddr ttOk rfl)) rfl (rdh_take 10 rfl kr trivial (q_loadH ttOk rfl rfl) rfl (rdh_take 11 rfl kr trivial (QuietW.h (qw_fieldAddr ttOk rfl)) rfl (rdh_take 12 rfl kr trivial (q_loadH ttOk rfl rfl) rfl (rdh_take 14 rfl kr trivial (QuietW.h (qw_fieldAddr ttOk rfl)) rfl (rdh_take 15 rfl kr trivial (q_loadH ttOk rfl rfl) rfl (rdh_take 17 rfl kr trivial (QuietW.h (qw_fieldAddr ttOk rfl)) rfl (rdh_take 18 rfl kr trivial (q_loadH ttOk rfl rfl) rfl (rdh_take 20 rfl kr trivial (QuietW.h (qw_fieldAddr ttOk rfl)) rfl (rdh_take 21 rfl kr trivial (q_loadH ttOk rfl rfl) rfl (rdh_2 2 19 kr ?_ ?_))))))))))))))))
  ·refine rdho_call (nm := 5) rfl trivial (cf rfl) (c_copyTwo n.two (log_two h)) (rs_of rfl) rfl rfl rfl (rdh_2 5 19 kr ?_ ?_)
   ·first | refine rdho_call (nm := 8) rfl trivial (cf rfl) (c_copyHead n.head om) (rs_of rfl) rfl rfl rfl ?_ | refine rdho_call (nm := 8) rfl trivial (cf rfl) (c_copyHead n.next om) (rs_of rfl) rfl rfl rfl ?_
    refine rdh_2 8 19 kr ?_ ?_
    ·first | refine rdho_call (nm := 11) rfl trivial (cf rfl) (c_copyHead n.head om) (rs_of rfl) rfl rfl rfl ?_ | refine rdho_call (nm := 11) rfl trivial (cf rfl) (c_copyHead n.next om) (rs_of rfl) rfl rfl rfl ?_
     refine rdh_2 13 19 kr ?_ ?_
     ·refine rdho_call (nm := 16) rfl trivial (cf rfl) (c_copyBook n.book om) (rs_of rfl) rfl rfl rfl (rdh_2 16 19 kr ?_ ?_)
      ·refine rdho_call (nm := 19) rfl trivial (cf rfl) (c_copySeen n.seen om) (rs_of rfl) rfl rfl rfl (rdh_1 19 kr (rdho_eff rfl trivial (e_lit ttOk rfl rfl rfl) (rdh_1 22 kr (rdho_eff rfl trivial (e_app_c ttOk rfl rfl rfl rfl rfl (flat_acks _) (by simp; omega) rfl rfl) (rdh_1 23 kr (rdho_q rfl trivial (q_build ttOk rfl) rfl (rdh_1 24 kr (rdho_eff rfl trivial (e_store ttOk rfl) ?_))))))))
       exact rdh_fin kr
      ·refine rdho_eff rfl trivial (e_lit ttOk rfl rfl rfl) (rdh_1 16 kr (rdho_call (nm := 19) rfl trivial (cf rfl) (c_copySeen n.seen om) (rs_of rfl) rfl rfl rfl (rdh_1 22 kr (rdho_eff rfl trivial (e_app_c ttOk rfl rfl rfl rfl rfl (flat_acks _) (by simp; omega) rfl rfl) (rdh_1 23 kr (rdho_q rfl trivial (q_build ttOk rfl) rfl (rdh_1 24 kr (rdho_eff rfl trivial (e_store ttOk rfl) ?_))))))))
       exact rdh_le [] kr lei
     ·refine rdho_eff rfl trivial (e_lit ttOk rfl rfl rfl) (rdh_1 13 kr (rdho_call (nm := 16) rfl trivial (cf rfl) (c_copyBook n.book om) (rs_of rfl) rfl rfl rfl (rdh_1 16 kr (rdho_call (nm := 19) rfl trivial (cf rfl) (c_copySeen n.seen om) (rs_of rfl) rfl rfl rfl (rdh_1 22 kr (rdho_eff rfl trivial (e_app_c ttOk rfl rfl rfl rfl rfl (flat_acks _) (by simp; omega) rfl rfl) (rdh_1 23 kr (rdho_q rfl trivial (q_build ttOk rfl) rfl (rdh_1 24 kr (rdho_eff rfl trivial (e_store ttOk rfl) ?_))))))))))
      exact rdh_le [] kr lei
    ·refine rdho_eff rfl trivial (e_lit ttOk rfl rfl rfl) (rdh_1 8 kr ?_)
     first | refine rdho_call (nm := 11) rfl trivial (cf rfl) (c_copyHead n.head om) (rs_of rfl) rfl rfl rfl ?_ | refine rdho_call (nm := 11) rfl trivial (cf rfl) (c_copyHead n.next om) (rs_of rfl) rfl rfl rfl ?_
     refine rdh_1 13 kr (rdho_call (nm := 16) rfl trivial (cf rfl) (c_copyBook n.book om) (rs_of rfl) rfl rfl rfl (rdh_1 16 kr (rdho_call (nm := 19) rfl trivial (cf rfl) (c_copySeen n.seen om) (rs_of rfl) rfl rfl rfl (rdh_1 22 kr (rdho_eff rfl trivial (e_app_c ttOk rfl rfl rfl rfl rfl (flat_acks _) (by simp; omega) rfl rfl) (rdh_1 23 kr (rdho_q rfl trivial (q_build ttOk rfl) rfl (rdh_1 24 kr (rdho_eff rfl trivial (e_store ttOk rfl) ?_)))))))))
     exact rdh_le [] kr lei
   ·refine rdho_eff rfl trivial (e_lit ttOk rfl rfl rfl) (rdh_1 5 kr ?_)
    first | refine rdho_call (nm := 8) rfl trivial (cf rfl) (c_copyHead n.head om) (rs_of rfl) rfl rfl rfl ?_ | refine rdho_call (nm := 8) rfl trivial (cf rfl) (c_copyHead n.next om) (rs_of rfl) rfl rfl rfl ?_
    refine rdh_1 8 kr ?_
    first | refine rdho_call (nm := 11) rfl trivial (cf rfl) (c_copyHead n.head om) (rs_of rfl) rfl rfl rfl ?_ | refine rdho_call (nm := 11) rfl trivial (cf rfl) (c_copyHead n.next om) (rs_of rfl) rfl rfl rfl ?_
    refine rdh_1 13 kr (rdho_call (nm := 16) rfl trivial (cf rfl) (c_copyBook n.book om) (rs_of rfl) rfl rfl rfl (rdh_1 16 kr (rdho_call (nm := 19) rfl trivial (cf rfl) (c_copySeen n.seen om) (rs_of rfl) rfl rfl rfl (rdh_1 22 kr (rdho_eff rfl trivial (e_app_c ttOk rfl rfl rfl rfl rfl (flat_acks _) (by simp; omega) rfl rfl) (rdh_1 23 kr (rdho_q rfl trivial (q_build ttOk rfl) rfl (rdh_1 24 kr (rdho_eff rfl trivial (e_store ttOk rfl) ?_)))))))))
    exact rdh_le [] kr lei
  ·refine rdho_eff rfl trivial (e_lit ttOk rfl rfl rfl) (rdh_1 2 kr (rdho_call (nm := 5) rfl trivial (cf rfl) (c_copyTwo n.two (log_two h)) (rs_of rfl) rfl rfl rfl (rdh_1 5 kr ?_)))
   first | refine rdho_call (nm := 8) rfl trivial (cf rfl) (c_copyHead n.head om) (rs_of rfl) rfl rfl rfl ?_ | refine rdho_call (nm := 8) rfl trivial (cf rfl) (c_copyHead n.next om) (rs_of rfl) rfl rfl rfl ?_
   refine rdh_1 8 kr ?_
   first | refine rdho_call (nm := 11) rfl trivial (cf rfl) (c_copyHead n.head om) (rs_of rfl) rfl rfl rfl ?_ | refine rdho_call (nm := 11) rfl trivial (cf rfl) (c_copyHead n.next om) (rs_of rfl) rfl rfl rfl ?_
   refine rdh_1 13 kr (rdho_call (nm := 16) rfl trivial (cf rfl) (c_copyBook n.book om) (rs_of rfl) rfl rfl rfl (rdh_1 16 kr (rdho_call (nm := 19) rfl trivial (cf rfl) (c_copySeen n.seen om) (rs_of rfl) rfl rfl rfl (rdh_1 22 kr (rdho_eff rfl trivial (e_app_c ttOk rfl rfl rfl rfl rfl (flat_acks _) (by simp; omega) rfl rfl) (rdh_1 23 kr (rdho_q rfl trivial (q_build ttOk rfl) rfl (rdh_1 24 kr (rdho_eff rfl trivial (e_store ttOk rfl) ?_)))))))))
   exact rdh_le [] kr lei
 refine et (ev_ret (retH rfl (ret_pure' ttOk rfl rfl ?_)))
 rfl
def trimF (b : Book) (x : Int) : Book × Bool := if bookOk b then if inB x b.base (lastB b) then (⟨x, timeAtF b x, b.entries.drop (x - b.base).toNat⟩, true) else (b, false) else (⟨0, 0, []⟩, false)
theorem tr_no1 {b : Book} {x : Int} (h : bookOk b = false) : trimF b x = (⟨0, 0, []⟩, false) := by simp [trimF, h]
theorem tr_no2 {b : Book} {x : Int} (h : bookOk b = true) (h2 : inB x b.base (lastB b) = false) : trimF b x = (b, false) := by simp [trimF, h, h2]
theorem tr_yes {b : Book} {x : Int} (h : bookOk b = true) (h2 : inB x b.base (lastB b) = true) : trimF b x = (⟨x, timeAtF b x, b.entries.drop (x - b.base).toNat⟩, true) := by simp [trimF, h, h2]
theorem tr_more {b : Book} {x : Int} {m : Nat} (h : bookOk b = true) (h2 : inB x b.base (lastB b) = true) (h3 : x - b.base - 1 = (m : Int)) (hm : m < b.entries.length) : trimF b x = (⟨x, b.entries[m].time, b.entries.drop (x - b.base).toNat⟩, true) := by
 rw [tr_yes h h2]
 unfold timeAtF
 rw [if_neg om, atB_eq h3 hm]
theorem tr_same {b : Book} {x : Int} (h : bookOk b = true) (h2 : inB x b.base (lastB b) = true) (h3 : ¬ x > b.base) : trimF b x = (b, true) := by
 have h4 := inB_iff.1 h2
 have : x = b.base := by omega
 subst this
 rw [tr_yes h h2]
 simp [timeAtF]
def syncedF (n : LogN) : LogN × List Ack := if logOkF n then (if n.more then ⟨bothSyncF n.two, n.next, noHead, false, (trimF n.book n.next.base).1, n.seen, lastB n.book, []⟩ else ⟨bothSyncF n.two, n.head, n.next, false, n.book, n.seen, lastB n.book, []⟩, n.owe) else (zeroL, [])
theorem sy_no {n : LogN} (h : logOkF n = false) : syncedF n = (zeroL, []) := by simp [syncedF, h]
theorem sy_more {n : LogN} (h : logOkF n = true) (h2 : n.more = true) : syncedF n = (⟨bothSyncF n.two, n.next, noHead, false, (trimF n.book n.next.base).1, n.seen, lastB n.book, []⟩, n.owe) := by simp [syncedF, h, h2]
theorem sy_less {n : LogN} (h : logOkF n = true) (h2 : n.more = false) : syncedF n = (⟨bothSyncF n.two, n.head, n.next, n.more, n.book, n.seen, lastB n.book, []⟩, n.owe) := by simp [syncedF, h, h2]
def keptHeadF (t : Two) (h : Head) : Two × Bool := if keptOk t then if headOk h then bothWroteF t (h.num % 2) (headRowF h) else (t, false) else (zeroT, false)
def trimAskedF (n : LogN) (x : Int) : LogN := if logOkF n then if n.more || !inB x (n.head.base + 1) n.durable then n else if (keptHeadF n.two (nextF n x)).2 then ⟨(keptHeadF n.two (nextF n x)).1, n.head, nextF n x, true, n.book, n.seen, n.durable, n.owe⟩ else n else zeroL
theorem c_TrimmedTo' (b : Book) (x : Int) : Pure Tryz.prog 85 [many (bookC b), one (iC x)] [many' (bookR (trimF b x).1), one' (RC.v (.bool (trimF b x).2))] := by
 refine pure_intro (N := 49) Tryz.func85 rfl rfl rfl rfl (fun H w => ?_)
 refine sq (rg (evl_e (e_box rfl rfl rfl rfl) (evl_e (e_alloc ttOk rfl rfl rfl rfl) (xs rfl rfl (nl (et (sq (sq (rg (xl ttOk rfl rfl (evl_call (nm := 8) (cf rfl) (c_BookOk' b) (rs_of rfl) rfl rfl rfl (xo (q_not rfl) rfl (nl (et (ev_cond_n rfl (fun h1 => ?_) (fun h1 => ?_))))))))))))))))
 ·try have d1 := of_decide_eq_false h1
  refine sq (rg (xo (q_build ttOk rfl) rfl (xst ttOk rfl rfl (xs rfl rfl (nl (et (ev_ret (evr_then (ret_pureN ttOk rfl rfl ?_)))))))))
  first
  | (rw [tr_no1 ‹_›]; simp [RpLe, L2, RcLe]; done)
  | (rw [tr_no2 ‹_› ‹_›]; simp [RpLe, L2, RcLe]; done)
  | (rw [tr_more ‹_› ‹_› hm1 hm2]; simp [RpLe, L2, RcLe]; done)
  | (rw [tr_same ‹_› ‹_› ‹_›]; simp [RpLe, L2, RcLe]; done)
 ·try have d1 := of_decide_eq_true h1
  have hbd := book_bd h1
  refine ev_skip (et (sq (rg (xl ttOk rfl rfl (evl_call (nm := 12) (cf rfl) (c_copyBook b om) (rs_of rfl) rfl rfl rfl (evl_e (e_alloc ttOk rfl rfl rfl rfl) (xst ttOk rfl rfl (nl (et (sq (sq (ev_drawq [] mo (rk0 0 rfl (q_move rfl) rfl (rk0 1 rfl (q_fieldAddr ttOk rfl) rfl (rk0 2 rfl (q_load ttOk rfl) rfl (rk0 3 rfl (q_load ttOk rfl) rfl (rdk_one 4 kr (rdo_call (nm := 17) rfl trivial (cf rfl) (c_lastOf b ‹_›) (rs_of rfl) rfl rfl rfl (rdk_one 5 kr (rdo_call (nm := 18) rfl trivial (cf rfl) (c_between _ _ _) (rs_of rfl) rfl rfl rfl (rk0 6 rfl (q_not rfl) rfl (rdk_endq kr (et (ev_cond_n rfl (fun h2 => ?_) (fun h2 => ?_)))))))))))))))))))))))))
  ·try have d2 := of_decide_eq_false h2
   refine sq (rg (xl ttOk rfl rfl (xst ttOk rfl rfl (xs rfl rfl (nl (et (ev_ret (evr_then (ret_pureN ttOk rfl rfl ?_)))))))))
   first
   | (rw [tr_no1 ‹_›]; simp [RpLe, L2, RcLe]; done)
   | (rw [tr_no2 ‹_› ‹_›]; simp [RpLe, L2, RcLe]; done)
   | (rw [tr_more ‹_› ‹_› hm1 hm2]; simp [RpLe, L2, RcLe]; done)
   | (rw [tr_same ‹_› ‹_› ‹_›]; simp [RpLe, L2, RcLe]; done)
  ·try have d2 := of_decide_eq_true h2
   refine ev_skip (et (sq (sq ?_)))
   have hrg := inB_iff.1 (show inB x b.base (lastB b) = true by assumption)
   have hla : lastB b = b.base + b.entries.length := rfl
   refine rg (xm rfl rfl (xf ttOk rfl rfl (xl ttOk rfl rfl (xb ttOk rfl rfl (nl (et (ev_cond rfl (fun h3 => ?_) (fun h3 => ?_))))))))
   ·try have d3 := of_decide_eq_true h3
    refine sq ?_
    obtain ⟨m, hm1, hm2⟩ := at_get (b := b) (x := x) om hrg.2
    refine rg (xf ttOk rfl rfl (xl ttOk rfl rfl (xm rfl rfl (xf ttOk rfl rfl (xl ttOk rfl rfl (xa rfl rfl rfl om rfl (xa rfl rfl rfl om rfl (xo (q_ix_map (m := m) ttOk rfl rfl rfl om om) rfl (xf ttOk rfl rfl (xl ttOk rfl rfl (xf ttOk rfl rfl (xst ttOk rfl rfl (nl (et (sq (rg (xm rfl rfl (xf ttOk rfl rfl (xst ttOk rfl rfl (nl (et (rg (evl_e (e_lit ttOk rfl rfl rfl) (xf ttOk rfl rfl (xl ttOk rfl rfl (xm rfl rfl (xf ttOk rfl rfl (xl ttOk rfl rfl (xa rfl rfl rfl om rfl (xo (q_sl_from_map (k := (x - b.base).toNat) ttOk rfl rfl rfl om om) rfl (evl_e (e_app_c ttOk rfl rfl rfl rfl rfl (flat_entries _) (by simp; omega) rfl rfl) (xf ttOk rfl rfl (xst ttOk rfl rfl (nl (et (sq (rg (xl ttOk rfl rfl (xst ttOk rfl rfl (xs rfl rfl (nl (et (ev_ret (ret_pureN ttOk rfl rfl ?_))))))))))))))))))))))))))))))))))))))))))))
    first
    | (rw [tr_no1 ‹_›]; simp [RpLe, L2, RcLe]; done)
    | (rw [tr_no2 ‹_› ‹_›]; simp [RpLe, L2, RcLe]; done)
    | (rw [tr_more ‹_› ‹_› hm1 hm2]; simp [RpLe, L2, RcLe]; done)
    | (rw [tr_same ‹_› ‹_› ‹_›]; simp [RpLe, L2, RcLe]; done)
   ·try have d3 := of_decide_eq_false h3
    refine ev_skip (et (sq (rg (xl ttOk rfl rfl (xst ttOk rfl rfl (xs rfl rfl (nl (et (ev_ret (ret_pureN ttOk rfl rfl ?_))))))))))
    first
    | (rw [tr_no1 ‹_›]; simp [RpLe, L2, RcLe]; done)
    | (rw [tr_no2 ‹_› ‹_›]; simp [RpLe, L2, RcLe]; done)
    | (rw [tr_more ‹_› ‹_› hm1 hm2]; simp [RpLe, L2, RcLe]; done)
    | (rw [tr_same ‹_› ‹_› ‹_›]; simp [RpLe, L2, RcLe]; done)
theorem c_SyncedLog' (n : LogN) : Pure Tryz.prog 28 [many (logC n)] [many' (logR ((syncedF n).1)), one' (acksR (syncedF n).2)] := by
 refine pure_intro (N := 43) Tryz.func28 rfl rfl rfl rfl (fun H w => ?_)
 refine sq (rg (evl_e (e_box rfl rfl rfl rfl) (evl_e (e_alloc ttOk rfl rfl rfl rfl) (xs rfl rfl (nl (et (sq (sq (rg (xl ttOk rfl rfl (evl_call (nm := 7) (cf rfl) (c_LogOk2 n) (rs_of rfl) rfl rfl rfl (xo (q_not rfl) rfl (nl (et (ev_cond_n rfl (fun h1 => ?_) (fun h1 => ?_))))))))))))))))
 ·refine sq (rg (xo (q_build ttOk rfl) rfl (xst ttOk rfl rfl (xs rfl rfl (nl (et (ev_ret (evr_then (ret_pureN ttOk rfl rfl ?_)))))))))
  first
  | (rw [sy_no ‹_›]; simp [RpLe, L2, RcLe, zeroL, zeroD, zeroT, noHead]; done)
  | (rw [sy_more ‹_› ‹_›]; simp [RpLe, L2, RcLe, noHead]; done)
  | (rw [sy_less ‹_› ‹_›]; simp [RpLe, L2, RcLe, noHead]; done)
 ·obtain ⟨hk, hh, hb, he1, he2⟩ := log_all h1
  have hsm := log_small h1
  have hbd := book_bd hb
  refine ev_skip (et (sq (rg (xl ttOk rfl rfl (evl_call (nm := 11) (cf rfl) (c_copyLog n ‹_›) (rs_of rfl) rfl rfl rfl (evl_e (e_alloc ttOk rfl rfl rfl rfl) (xst ttOk rfl rfl (nl (et (sq (rg (xf ttOk rfl rfl (xl ttOk rfl rfl (xs rfl rfl (nl (et (sq (ev_drawq [7, 9, 11] mo (rk0 0 rfl (q_fieldAddr ttOk rfl) rfl (rk0 1 rfl (q_load ttOk rfl) rfl (rk0 3 rfl (q_fieldAddr ttOk rfl) rfl (rk0 4 rfl (q_load ttOk rfl) rfl (rdk_one 2 kr (rdo_call (nm := 16) rfl trivial (cf rfl) (c_BothSynced' n.two) (rs_of rfl) rfl rfl rfl (rk0 6 rfl (q_fieldAddr ttOk rfl) rfl (rdk_one 5 kr (rdo_call (nm := 19) rfl trivial (cf rfl) (c_lastOf n.book hb) (rs_of rfl) rfl rfl rfl (rdk_one 7 kr (rdo_brk rfl rfl trivial (e_store ttOk rfl) (rdb_q 8 rfl kr trivial (q_fieldAddr ttOk rfl) rfl (rdb_eff 9 rfl kr trivial (e_store ttOk rfl) (rdb_q 10 rfl kr trivial (q_fieldAddr ttOk rfl) rfl (rdb_eff 11 rfl kr trivial (e_store ttOk rfl) (rdb_endq kr (et (sq (sq (rg (xf ttOk rfl rfl (xl ttOk rfl rfl (nl (et (ev_cond rfl (fun h2 => ?_) (fun h2 => ?_))))))))))))))))))))))))))))))))))))))))))))
  ·refine sq (rg (xf ttOk rfl rfl (xl ttOk rfl rfl (xf ttOk rfl rfl (xf ttOk rfl rfl (xl ttOk rfl rfl (evl_call (nm := 31) (cf rfl) (c_TrimmedTo' n.book n.next.base) (rs_of rfl) rfl rfl rfl (xm rfl rfl (xo (q_ext rfl) rfl (xo (q_ext rfl) rfl (xf ttOk rfl rfl (xst ttOk rfl rfl (nl (et (rg (xf ttOk rfl rfl (xl ttOk rfl rfl (xo (q_build ttOk rfl) rfl (xf ttOk rfl rfl (xst ttOk rfl rfl (xf ttOk rfl rfl (xst ttOk rfl rfl (xf ttOk rfl rfl (xst ttOk rfl rfl (nl (et (sq (rg (xl ttOk rfl rfl (xm rfl rfl (xst ttOk rfl rfl (xs rfl rfl (nl (et (ev_ret (ret_pureN ttOk rfl rfl ?_))))))))))))))))))))))))))))))))))))
   first
   | (rw [sy_no ‹_›]; simp [RpLe, L2, RcLe, zeroL, zeroD, zeroT, noHead]; done)
   | (rw [sy_more ‹_› ‹_›]; simp [RpLe, L2, RcLe, noHead]; done)
   | (rw [sy_less ‹_› ‹_›]; simp [RpLe, L2, RcLe, noHead]; done)
  ·refine ev_skip (et (sq (rg (xl ttOk rfl rfl (xm rfl rfl (xst ttOk rfl rfl (xs rfl rfl (nl (et (ev_ret (ret_pureN ttOk rfl rfl ?_)))))))))))
   first
   | (rw [sy_no ‹_›]; simp [RpLe, L2, RcLe, zeroL, zeroD, zeroT, noHead]; done)
   | (rw [sy_more ‹_› ‹_›]; simp [RpLe, L2, RcLe, noHead]; done)
   | (rw [sy_less ‹_› ‹_›]; simp [RpLe, L2, RcLe, noHead]; done)
end Go.Proofs.YtinmcdcmidlgpaaGreatDoor
