/- Walks of functions of the program, printed by a program of the prover. -/
import Derived.Test.YtphaggopgdbojaaGreatReF35
import Derived.Test.YtphaggopgdbojaaGreatReVE
import Derived.Test.YtphaggopgdbojaaGreatReVY
import Derived.Test.YtphaggopgdbojaaGreatReVZ
namespace Go.Proofs.YtphaggopgdbojaaGreat
open Go.ChangeShapes Go.WideShapes Go.ChangeAt Go.RowKit
set_option linter.unusedVariables false
set_option linter.unusedSimpArgs false
set_option maxHeartbeats 1000000
set_option maxRecDepth 100000
attribute [local irreducible] EvL Ev EvE Quiet Eff Pure RDk RDb RDo
def noEntry : Entry := ⟨0, 0, 0, 0, 0, 0, 0, 0, 0⟩
def atB (b : Book) (x : Int) : Entry := b.entries.getD (x - b.base - 1).toNat noEntry
def timeAtF (b : Book) (x : Int) : Int := if x = b.base then b.time else (atB b x).time
theorem atB_eq {b : Book} {x : Int} {m : Nat} (h : x - b.base - 1 = (m : Int)) (hm : m < b.entries.length) : atB b x = b.entries[m] := by
  unfold atB
  rw [h, Int.toNat_natCast, List.getD_eq_getElem?_getD, List.getElem?_eq_getElem hm]
  rfl
theorem at_get {b : Book} {x : Int} (h1 : b.base < x) (h2 : x ≤ lastB b) : ∃ m : Nat, x - b.base - 1 = (m : Int) ∧ m < b.entries.length := by
  unfold lastB at h2
  exact ⟨(x - b.base - 1).toNat, by omega, by omega⟩
theorem c_l8TimeAt (b : Book) (x : Int) (hb : bookOk b = true) (hx : b.base ≤ x ∧ x ≤ lastB b) : Pure Tryz.prog 115 [many (bookC b), one (iC x)] (iR (timeAtF b x)) := by
 refine pure_intro (N := 21) Tryz.func115 rfl rfl rfl rfl (fun H w => ?_)
 have hbd := book_bd hb
 have hx2 : x ≤ 4000 := by have := hx.2; unfold lastB at this; omega
 refine sq (rg (evl_e (e_box rfl rfl rfl rfl) (xs rfl rfl (nl (et (sq (sq (rg (xm rfl rfl (xf ttOk rfl rfl (xl ttOk rfl rfl (xb ttOk rfl rfl (nl (et (ev_cond rfl (fun h1 => ?_) (fun h1 => ?_))))))))))))))))
 · try have d1 := of_decide_eq_true h1
   refine sq (rg (xf ttOk rfl rfl (xl ttOk rfl rfl (xs rfl rfl (nl (et (ev_ret (evr_then (ret_pure' ttOk rfl rfl ?_)))))))))
   rw [show timeAtF b x = b.time by simp only [timeAtF]; rw [if_pos (by assumption)]]
 · try have d1 := of_decide_eq_false h1
   refine ev_skip (et (sq ?_))
   obtain ⟨m, hm1, hm2⟩ := at_get (b := b) (x := x) (by omega) hx.2
   refine rg (xf ttOk rfl rfl (xl ttOk rfl rfl (xm rfl rfl (xf ttOk rfl rfl (xl ttOk rfl rfl (xa rfl rfl rfl (by omega) rfl (xa rfl rfl rfl (by omega) rfl (xo (q_ix_map (m := m) ttOk rfl rfl rfl (by omega) (by omega)) rfl (xf ttOk rfl rfl (xl ttOk rfl rfl (xs rfl rfl (nl (et (ev_ret (ret_pure' ttOk rfl rfl ?_)))))))))))))))
   rw [show timeAtF b x = b.entries[m].time by simp only [timeAtF]; rw [if_neg (by assumption), atB_eq hm1 hm2]]
end Go.Proofs.YtphaggopgdbojaaGreat
namespace Go.Proofs.YtphaggopgdbojaaGreat
open Go.ChangeShapes Go.WideShapes Go.ChangeAt Go.RowKit
set_option linter.unusedVariables false
set_option linter.unusedSimpArgs false
set_option maxHeartbeats 1000000
set_option maxRecDepth 100000
attribute [local irreducible] EvL Ev EvE Quiet Eff Pure RDk RDb RDo
theorem head_bd {h : Head} (hh : headOk h = true) : 0 ≤ h.base ∧ h.base ≤ 2000 ∧ 0 ≤ h.num ∧ h.num ≤ h.base ∧ seenOk h.seen = true := by
  simp only [headOk, inB, Bool.and_eq_true, decide_eq_true_eq] at hh
  exact ⟨hh.1.1, hh.1.2, hh.2.1.1, hh.2.1.2, hh.2.2.2.2.1⟩
end Go.Proofs.YtphaggopgdbojaaGreat
namespace Go.Proofs.YtphaggopgdbojaaGreat
open Go.ChangeShapes Go.WideShapes Go.ChangeAt Go.RowKit
set_option linter.unusedVariables false
set_option linter.unusedSimpArgs false
set_option maxHeartbeats 1000000
set_option maxRecDepth 100000
attribute [local irreducible] EvL Ev EvE Quiet Eff Pure RDk RDb RDo
theorem ents_ok {l : List Entry} (h : entriesOk l = true) : ∀ e ∈ l, entryOk e = true := fun e he => by
  obtain ⟨k, hk, rfl⟩ := List.mem_iff_getElem.1 he
  have := (entriesOk_iff.1 h).2 k hk
  rw [entStep_at hk] at this
  simp only [Bool.and_eq_true] at this
  exact this.1
theorem book_first {b : Book} (hb : bookOk b = true) (h : 0 < b.entries.length) : b.entries[0].index = b.base + 1 := by
  simp only [bookOk, Bool.and_eq_true] at hb
  have h6 := hb.2.2.2.2.2
  revert h6 h
  cases b.entries with
  | nil => intro h; simp at h
  | cons e es =>
    intro h h6
    simp only [Bool.and_eq_true, decide_eq_true_eq] at h6
    exact h6.1
theorem ent_ix {b : Book} (hb : bookOk b = true) : ∀ j (hj : j < b.entries.length), b.entries[j].index = b.base + 1 + j
  | 0, hj => by rw [book_first hb hj]; simp
  | j + 1, hj => by
    have h1 := (entriesOk_iff.1 (book_bd hb).2.2.2.2).2 (j + 1) hj
    rw [entStep_at hj, entOver_at hj (by omega)] at h1
    simp only [Bool.and_eq_true, decide_eq_true_eq] at h1
    have h2 := ent_ix hb j (by omega)
    have h3 : b.entries[j + 1].index = b.entries[j].index + 1 := h1.2.1
    rw [h3, h2]
    omega
end Go.Proofs.YtphaggopgdbojaaGreat
namespace Go.Proofs.YtphaggopgdbojaaGreat
open Go.ChangeShapes Go.WideShapes Go.ChangeAt Go.RowKit
set_option linter.unusedVariables false
set_option linter.unusedSimpArgs false
set_option maxHeartbeats 1000000
set_option maxRecDepth 100000
attribute [local irreducible] EvL Ev EvE Quiet Eff Pure RDk RDb RDo
theorem flat_entries (l : List Entry) : ∀ cs ∈ l.map entryC, ∀ c ∈ cs, ∃ x, c = .v x := by
  intro cs h c hc
  obtain ⟨x, _, rfl⟩ := List.mem_map.1 h
  simp only [List.mem_cons, List.not_mem_nil, or_false] at hc
  rcases hc with rfl | rfl | rfl | rfl | rfl | rfl | rfl | rfl | rfl <;> exact ⟨_, rfl⟩
end Go.Proofs.YtphaggopgdbojaaGreat
namespace Go.Proofs.YtphaggopgdbojaaGreat
open Go.ChangeShapes Go.WideShapes Go.ChangeAt Go.RowKit
set_option linter.unusedVariables false
set_option linter.unusedSimpArgs false
set_option maxHeartbeats 1000000
set_option maxRecDepth 100000
attribute [local irreducible] EvL Ev EvE Quiet Eff Pure RDk RDb RDo
/-- every second number from i on, m of them -/
def pk (F : List Int) (i : Nat) : Nat → List Int
  | 0 => []
  | k + 1 => pk F i k ++ [F.getD (i + 2 * k) 0]
end Go.Proofs.YtphaggopgdbojaaGreat
namespace Go.Proofs.YtphaggopgdbojaaGreat
open Go.ChangeShapes Go.WideShapes Go.ChangeAt Go.RowKit
set_option linter.unusedVariables false
set_option linter.unusedSimpArgs false
set_option maxHeartbeats 1000000
set_option maxRecDepth 100000
attribute [local irreducible] EvL Ev EvE Quiet Eff Pure RDk RDb RDo
theorem getD_set {α : Type} {l : List α} {i j : Nat} {x d : α} (hi : i < l.length) : (l.set i x).getD j d = if i = j then x else l.getD j d := by
  simp only [List.getD_eq_getElem?_getD, List.getElem?_set]
  split
  · rename_i e
    subst e
    simp [hi]
  · rfl
theorem rowOk_of {l : List Int} (h1 : l.length ≤ 48) (h2 : NumsOk l) : rowOk l = true := by
  simp only [rowOk, Bool.and_eq_true, decide_eq_true_eq, List.all_eq_true]
  exact ⟨h1, h2⟩
theorem rowOk_torn {a b : List Int} (ha : rowOk a = true) (hb : rowOk b = true) : rowOk (tornF a b) = true := by
  obtain ⟨h1, h2⟩ := rowOk_nums ha
  obtain ⟨h3, h4⟩ := rowOk_nums hb
  refine rowOk_of ?_ fun x hx => ?_
  · simp only [tornF, List.length_append, List.length_take, List.length_drop]; omega
  · rcases List.mem_append.1 hx with hx | hx
    · exact h2 x (List.mem_of_mem_take hx)
    · exact h4 x (List.mem_of_mem_drop hx)
theorem rowOk_nil : rowOk [] = true := by decide
theorem wait_ok {d : Disk} (h : diskOk d = true) {k : Nat} (hk : k < d.wait.length) : hasAt d d.wait[k].1 = true ∧ rowOk d.wait[k].2 = true := by
  have := (diskOk_sizes h).2.2.2.2 _ (List.getElem_mem hk)
  simp only [writeOk, Bool.and_eq_true] at this
  exact this
theorem fallUp_ok {d : Disk} (h : diskOk d = true) (F : List Int) (all : Bool) : ∀ k, k ≤ d.wait.length → ∀ r ∈ fallUp d F all k, rowOk r = true
  | 0, _ => fun r hr => (diskOk_sizes h).2.2.2.1 r hr
  | k + 1, hk => fun r hr => by
    have ih := fallUp_ok h F all k (by omega)
    have hw := wait_ok h (k := k) (by omega)
    rw [show fallUp d F all (k + 1) = fallStep (fateAt F k) all (fallUp d F all k) d.wait[k] by simp only [fallUp]; rw [getD_lenW (show k < d.wait.length by omega)]] at hr
    have key : ∀ z : List Int, rowOk z = true → r ∈ (fallUp d F all k).set d.wait[k].1.toNat z → rowOk r = true := fun z hz hm => by
      rcases List.mem_or_eq_of_mem_set hm with h9 | h9
      · exact ih r h9
      · rw [h9]; exact hz
    simp only [fallStep] at hr
    split at hr
    · exact key _ hw.2 hr
    · split at hr
      · refine key _ (rowOk_torn hw.2 ?_) hr
        rw [List.getD_eq_getElem?_getD]
        cases h9 : (fallUp d F all k)[d.wait[k].1.toNat]? with
        | none => exact rowOk_nil
        | some r9 => exact ih r9 (List.mem_of_getElem? h9)
      · exact ih r hr
theorem fall_ok {d : Disk} (h : diskOk d = true) (F : List Int) (all : Bool) : diskOk (fallF d F all) = true := by
  rw [fall_yes h]
  have h1 := diskOk_sizes h
  have h2 := fallUp_len d F all d.wait.length
  simp only [diskOk, Bool.and_eq_true, decide_eq_true_eq, List.all_eq_true, List.length_nil]
  exact ⟨by omega, by omega, by omega, fun r hr => fallUp_ok h F all _ (Nat.le_refl _) r hr, by simp⟩
theorem fall_len {d : Disk} (h : diskOk d = true) (F : List Int) (all : Bool) : (fallF d F all).kept.length = d.kept.length := by
  rw [fall_yes h]; exact fallUp_len d F all _
theorem lastW_snoc {l : List (Int × List Int)} {y : Int × List Int} {x : Int} : lastW (l ++ [y]) x = if y.1 = x then some y.2 else lastW l x := by simp [lastW, List.foldl_append]
theorem sync_at {d : Disk} (h : diskOk d = true) {x : Int} (hx : 0 ≤ x) : ∀ k, k ≤ d.wait.length → (fallUp d [] true k).getD x.toNat [] = (lastW (d.wait.take k) x).getD (d.kept.getD x.toNat [])
  | 0, _ => by simp [fallUp, lastW]
  | k + 1, hk => by
    have ih := sync_at h hx k (by omega)
    have hw := wait_at h (k := k) (by omega)
    have hl := fallUp_len d [] true k
    rw [show fallUp d [] true (k + 1) = (fallUp d [] true k).set d.wait[k].1.toNat d.wait[k].2 by simp only [fallUp]; rw [getD_lenW (show k < d.wait.length by omega)]; simp [fallStep], getD_set (by omega), List.take_succ_eq_append_getElem (by omega), lastW_snoc]
    by_cases e : d.wait[k].1 = x
    · rw [if_pos e, if_pos (by rw [e])]; rfl
    · rw [if_neg e, if_neg (by omega), ih]
theorem sync_read {d : Disk} {x : Int} : readF (fallF d [] true) x = readF d x := by
  cases h : diskOk d
  · rw [fall_no h, read_no1 h, read_no1 (by decide)]
  · cases hh : hasAt d x
    · rw [read_no2 hh, read_no2]
      have := fall_len h [] true
      unfold hasAt at hh ⊢
      rw [this]
      exact hh
    · have hx := hasAt_iff.1 hh
      have h1 : hasAt (fallF d [] true) x = true := by
        rw [hasAt_iff, fall_len h]; exact hx
      have h2 := sync_at h hx.1 d.wait.length (Nat.le_refl _)
      rw [List.take_length] at h2
      unfold readF
      rw [fall_ok h, h1, h, hh, fall_yes h]
      simp only [Bool.and_self, if_true]
      rw [← h2]
      rfl
theorem twoOk_iff {t : Two} : twoOk t = true ↔ diskOk t.a = true ∧ diskOk t.b = true ∧ t.a.kept.length = t.b.kept.length := by simp [twoOk]
theorem bsync_ok {t : Two} (h : twoOk t = true) : twoOk (bothSyncF t) = true := by
  obtain ⟨h1, h2, h3⟩ := twoOk_iff.1 h
  rw [bsync_yes h]
  exact twoOk_iff.2 ⟨fall_ok h1 _ _, fall_ok h2 _ _, by rw [fall_len h1, fall_len h2, h3]⟩
theorem right_sync {t : Two} {x : Int} : rightF (bothSyncF t) x = rightF t x := by
  cases h : twoOk t
  · rw [bsync_no h, right_no1 h, right_no1 (by decide)]
  · have h0 := bsync_ok h
    unfold rightF
    rw [h0, h, bsync_yes h]
    simp only [sync_read, Bool.true_and]
    have : hasAt (fallF t.a [] true) x = hasAt t.a x := by unfold hasAt; rw [fall_len (twoOk_both h).1]
    rw [this]
theorem keptOk_iff {t : Two} : keptOk t = true ↔ twoOk t = true ∧ t.a.kept.length = 22 := by simp [keptOk]
theorem kept_sync {t : Two} : keptOk (bothSyncF t) = keptOk t := by
  cases h : twoOk t
  · rw [bsync_no h]
    unfold keptOk
    rw [h]
    rfl
  · unfold keptOk
    rw [h, bsync_ok h, bsync_yes h]
    simp only [fall_len (twoOk_both h).1]
theorem headUp_sync {t : Two} : ∀ k, headUp (bothSyncF t) k = headUp t k
  | 0 => rfl
  | k + 1 => by simp only [headUp, right_sync, headUp_sync k]
theorem headIn_sync {t : Two} : headIn (bothSyncF t) = headIn t := by
  unfold headIn
  rw [kept_sync, headUp_sync]
theorem c_l8Entries (l : List Entry) (h : l.length ≤ 1048576) : Pure Tryz.prog 175 [one (entries l)] [one' (entriesR l)] := by
 refine pure_intro (N := 6) Tryz.func175 rfl rfl rfl rfl (fun H w => ?_)
 refine sq (rg (xs rfl rfl (nl (et (sq (rg (evl_e (e_lit ttOk rfl rfl rfl) (xm rfl rfl (evl_e (e_app_c ttOk rfl rfl rfl rfl rfl (flat_entries _) (by simp; omega) rfl rfl) (xs rfl rfl (nl (et (ev_ret (ret_pure' ttOk rfl rfl ?_))))))))))))))
 rfl
theorem c_l8Copy (b : Book) (h : b.entries.length ≤ 1048576) : Pure Tryz.prog 114 [many (bookC b)] [many' (bookR b)] := by
 refine pure_intro (N := 11) Tryz.func114 rfl rfl rfl rfl (fun H w => ?_)
 refine sq (rg (evl_e (e_box rfl rfl rfl rfl) (evl_e (e_alloc ttOk rfl rfl rfl rfl) (nl (et (sq (ev_drawq [8] mo (rdk_take 0 rfl (by kernel_rfl) trivial (q_fieldAddr ttOk rfl) rfl (rdk_take 1 rfl (by kernel_rfl) trivial (q_load ttOk rfl) rfl (rdk_take 2 rfl (by kernel_rfl) trivial (q_fieldAddr ttOk rfl) rfl (rdk_take 3 rfl (by kernel_rfl) trivial (q_load ttOk rfl) rfl (rdk_take 4 rfl (by kernel_rfl) trivial (q_fieldAddr ttOk rfl) rfl (rdk_take 5 rfl (by kernel_rfl) trivial (q_load ttOk rfl) rfl (rdk_one 6 (by kernel_rfl) (rdo_call (nm := 9) rfl trivial (cf rfl) (c_l8Entries b.entries h) (rs_of rfl) rfl rfl rfl (rdk_take 7 rfl (by kernel_rfl) trivial (q_build ttOk rfl) rfl (rdk_one 8 (by kernel_rfl) (rdo_brk rfl rfl trivial (e_store ttOk rfl) (rdb_endq (by kernel_rfl) (et (ev_ret (ret_pure' ttOk rfl rfl ?_))))))))))))))))))))))
 rfl
end Go.Proofs.YtphaggopgdbojaaGreat
namespace Go.Proofs.YtphaggopgdbojaaGreat
open Go.ChangeShapes Go.WideShapes Go.ChangeAt Go.RowKit
set_option linter.unusedVariables false
set_option linter.unusedSimpArgs false
set_option maxHeartbeats 1000000
set_option maxRecDepth 100000
attribute [local irreducible] EvL Ev EvE Quiet Eff Pure RDk RDb RDo
theorem wrote_ok {d : Disk} {x : Int} {row : List Int} (h : diskOk d = true) : diskOk (wroteF d x row).1 = true := by
  cases h2 : wroteOk d x row
  · rw [wrote_fail h h2]; exact h
  · rw [wrote_yes h h2]
    have h1 := diskOk_sizes h
    simp only [wroteOk, Bool.and_eq_true, decide_eq_true_eq] at h2
    simp only [diskOk, Bool.and_eq_true, decide_eq_true_eq, List.all_eq_true, List.length_append, List.length_singleton]
    refine ⟨by omega, by omega, by omega, h1.2.2.2.1, fun y hy => ?_⟩
    rcases List.mem_append.1 hy with hy | hy
    · have := h1.2.2.2.2 y hy
      simpa [writeOk, hasAt] using this
    · rw [List.mem_singleton.1 hy]
      simp only [writeOk, Bool.and_eq_true]
      exact ⟨h2.1, h2.2.1⟩
theorem wrote_len {d : Disk} {x : Int} {row : List Int} (h : diskOk d = true) : (wroteF d x row).1.kept = d.kept := by
  cases h2 : wroteOk d x row
  · rw [wrote_fail h h2]
  · rw [wrote_yes h h2]
theorem both_ok {t : Two} {x : Int} {row : List Int} (h : twoOk t = true) : twoOk (bothWroteF t x row).1 = true := by
  obtain ⟨h1, h2, h3⟩ := twoOk_iff.1 h
  unfold bothWroteF
  rw [h]
  simp only [if_true]
  split
  · exact twoOk_iff.2 ⟨wrote_ok h1, wrote_ok h2, by rw [wrote_len h1, wrote_len h2, h3]⟩
  · exact h
end Go.Proofs.YtphaggopgdbojaaGreat
