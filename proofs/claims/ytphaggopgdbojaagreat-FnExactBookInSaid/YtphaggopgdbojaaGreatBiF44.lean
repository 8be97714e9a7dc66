/- Walks of functions of the program, printed by a program of the prover. -/
import Derived.Test.YtphaggopgdbojaaGreatBiF35
import Derived.Test.YtphaggopgdbojaaGreatBiVE
import Derived.Test.YtphaggopgdbojaaGreatBiVY
import Derived.Test.YtphaggopgdbojaaGreatBiVZ
namespace Go.Proofs.YtphaggopgdbojaaGreat
open Go.ChangeShapes Go.WideShapes Go.ChangeAt Go.RowKit
set_option linter.unusedVariables false
set_option linter.unusedSimpArgs false
set_option maxHeartbeats 1000000
set_option maxRecDepth 100000
attribute [local irreducible] EvL Ev EvE Quiet Eff Pure RDk RDb RDo
def noEntry : Entry := ⟨0, 0, 0, 0, 0, 0, 0, 0, 0⟩
def atB (b : Book) (x : Int) : Entry := b.entries.getD (x - b.base - 1).toNat noEntry
def timeAtF (b : Book) (x : Int) : Int := if x = b.base then b.time else (atB b x).time
theorem atB_eq {b : Book} {x : Int} {m : Nat} (h : x - b.base - 1 = (m : Int)) (hm : m < b.entries.length) : atB b x = b.entries[m] := by
  unfold atB
  rw [h, Int.toNat_natCast, List.getD_eq_getElem?_getD, List.getElem?_eq_getElem hm]
  rfl
theorem at_get {b : Book} {x : Int} (h1 : b.base < x) (h2 : x ≤ lastB b) : ∃ m : Nat, x - b.base - 1 = (m : Int) ∧ m < b.entries.length := by
  unfold lastB at h2
  exact ⟨(x - b.base - 1).toNat, by omega, by omega⟩
theorem c_l8TimeAt (b : Book) (x : Int) (hb : bookOk b = true) (hx : b.base ≤ x ∧ x ≤ lastB b) : Pure Tryz.prog 115 [many (bookC b), one (iC x)] (iR (timeAtF b x)) := by
 refine pure_intro (N := 21) Tryz.func115 rfl rfl rfl rfl (fun H w => ?_)
 have hbd := book_bd hb
 have hx2 : x ≤ 4000 := by have := hx.2; unfold lastB at this; omega
 refine sq (rg (evl_e (e_box rfl rfl rfl rfl) (xs rfl rfl (nl (et (sq (sq (rg (xm rfl rfl (xf ttOk rfl rfl (xl ttOk rfl rfl (xb ttOk rfl rfl (nl (et (ev_cond rfl (fun h1 => ?_) (fun h1 => ?_))))))))))))))))
 · try have d1 := of_decide_eq_true h1
   refine sq (rg (xf ttOk rfl rfl (xl ttOk rfl rfl (xs rfl rfl (nl (et (ev_ret (evr_then (ret_pure' ttOk rfl rfl ?_)))))))))
   rw [show timeAtF b x = b.time by simp only [timeAtF]; rw [if_pos (by assumption)]]
 · try have d1 := of_decide_eq_false h1
   refine ev_skip (et (sq ?_))
   obtain ⟨m, hm1, hm2⟩ := at_get (b := b) (x := x) (by omega) hx.2
   refine rg (xf ttOk rfl rfl (xl ttOk rfl rfl (xm rfl rfl (xf ttOk rfl rfl (xl ttOk rfl rfl (xa rfl rfl rfl (by omega) rfl (xa rfl rfl rfl (by omega) rfl (xo (q_ix_map (m := m) ttOk rfl rfl rfl (by omega) (by omega)) rfl (xf ttOk rfl rfl (xl ttOk rfl rfl (xs rfl rfl (nl (et (ev_ret (ret_pure' ttOk rfl rfl ?_)))))))))))))))
   rw [show timeAtF b x = b.entries[m].time by simp only [timeAtF]; rw [if_neg (by assumption), atB_eq hm1 hm2]]
end Go.Proofs.YtphaggopgdbojaaGreat
namespace Go.Proofs.YtphaggopgdbojaaGreat
open Go.ChangeShapes Go.WideShapes Go.ChangeAt Go.RowKit
set_option linter.unusedVariables false
set_option linter.unusedSimpArgs false
set_option maxHeartbeats 1000000
set_option maxRecDepth 100000
attribute [local irreducible] EvL Ev EvE Quiet Eff Pure RDk RDb RDo
theorem head_bd {h : Head} (hh : headOk h = true) : 0 ≤ h.base ∧ h.base ≤ 2000 ∧ 0 ≤ h.num ∧ h.num ≤ h.base ∧ seenOk h.seen = true := by
  simp only [headOk, inB, Bool.and_eq_true, decide_eq_true_eq] at hh
  exact ⟨hh.1.1, hh.1.2, hh.2.1.1, hh.2.1.2, hh.2.2.2.2.1⟩
end Go.Proofs.YtphaggopgdbojaaGreat
namespace Go.Proofs.YtphaggopgdbojaaGreat
open Go.ChangeShapes Go.WideShapes Go.ChangeAt Go.RowKit
set_option linter.unusedVariables false
set_option linter.unusedSimpArgs false
set_option maxHeartbeats 1000000
set_option maxRecDepth 100000
attribute [local irreducible] EvL Ev EvE Quiet Eff Pure RDk RDb RDo
theorem book_first {b : Book} (hb : bookOk b = true) (h : 0 < b.entries.length) : b.entries[0].index = b.base + 1 := by
  simp only [bookOk, Bool.and_eq_true] at hb
  have h6 := hb.2.2.2.2.2
  revert h6 h
  cases b.entries with
  | nil => intro h; simp at h
  | cons e es =>
    intro h h6
    simp only [Bool.and_eq_true, decide_eq_true_eq] at h6
    exact h6.1
theorem ent_ix {b : Book} (hb : bookOk b = true) : ∀ j (hj : j < b.entries.length), b.entries[j].index = b.base + 1 + j
  | 0, hj => by rw [book_first hb hj]; simp
  | j + 1, hj => by
    have h1 := (entriesOk_iff.1 (book_bd hb).2.2.2.2).2 (j + 1) hj
    rw [entStep_at hj, entOver_at hj (by omega)] at h1
    simp only [Bool.and_eq_true, decide_eq_true_eq] at h1
    have h2 := ent_ix hb j (by omega)
    have h3 : b.entries[j + 1].index = b.entries[j].index + 1 := h1.2.1
    rw [h3, h2]
    omega
end Go.Proofs.YtphaggopgdbojaaGreat
namespace Go.Proofs.YtphaggopgdbojaaGreat
open Go.ChangeShapes Go.WideShapes Go.ChangeAt Go.RowKit
set_option linter.unusedVariables false
set_option linter.unusedSimpArgs false
set_option maxHeartbeats 1000000
set_option maxRecDepth 100000
attribute [local irreducible] EvL Ev EvE Quiet Eff Pure RDk RDb RDo
theorem flat_entries (l : List Entry) : ∀ cs ∈ l.map entryC, ∀ c ∈ cs, ∃ x, c = .v x := by
  intro cs h c hc
  obtain ⟨x, _, rfl⟩ := List.mem_map.1 h
  simp only [List.mem_cons, List.not_mem_nil, or_false] at hc
  rcases hc with rfl | rfl | rfl | rfl | rfl | rfl | rfl | rfl | rfl <;> exact ⟨_, rfl⟩
end Go.Proofs.YtphaggopgdbojaaGreat
namespace Go.Proofs.YtphaggopgdbojaaGreat
open Go.ChangeShapes Go.WideShapes Go.ChangeAt Go.RowKit
set_option linter.unusedVariables false
set_option linter.unusedSimpArgs false
set_option maxHeartbeats 1000000
set_option maxRecDepth 100000
attribute [local irreducible] EvL Ev EvE Quiet Eff Pure RDk RDb RDo
/-- every second number from i on, m of them -/
def pk (F : List Int) (i : Nat) : Nat → List Int
  | 0 => []
  | k + 1 => pk F i k ++ [F.getD (i + 2 * k) 0]
end Go.Proofs.YtphaggopgdbojaaGreat
namespace Go.Proofs.YtphaggopgdbojaaGreat
open Go.ChangeShapes Go.WideShapes Go.ChangeAt Go.RowKit
set_option linter.unusedVariables false
set_option linter.unusedSimpArgs false
set_option maxHeartbeats 1000000
set_option maxRecDepth 100000
attribute [local irreducible] EvL Ev EvE Quiet Eff Pure RDk RDb RDo
theorem c_l8Entries (l : List Entry) (h : l.length ≤ 1048576) : Pure Tryz.prog 175 [one (entries l)] [one' (entriesR l)] := by
 refine pure_intro (N := 6) Tryz.func175 rfl rfl rfl rfl (fun H w => ?_)
 refine sq (rg (xs rfl rfl (nl (et (sq (rg (evl_e (e_lit ttOk rfl rfl rfl) (xm rfl rfl (evl_e (e_app_c ttOk rfl rfl rfl rfl rfl (flat_entries _) (by simp; omega) rfl rfl) (xs rfl rfl (nl (et (ev_ret (ret_pure' ttOk rfl rfl ?_))))))))))))))
 rfl
theorem c_l8Copy (b : Book) (h : b.entries.length ≤ 1048576) : Pure Tryz.prog 114 [many (bookC b)] [many' (bookR b)] := by
 refine pure_intro (N := 11) Tryz.func114 rfl rfl rfl rfl (fun H w => ?_)
 refine sq (rg (evl_e (e_box rfl rfl rfl rfl) (evl_e (e_alloc ttOk rfl rfl rfl rfl) (nl (et (sq (ev_drawq [8] mo (rdk_take 0 rfl (by kernel_rfl) trivial (q_fieldAddr ttOk rfl) rfl (rdk_take 1 rfl (by kernel_rfl) trivial (q_load ttOk rfl) rfl (rdk_take 2 rfl (by kernel_rfl) trivial (q_fieldAddr ttOk rfl) rfl (rdk_take 3 rfl (by kernel_rfl) trivial (q_load ttOk rfl) rfl (rdk_take 4 rfl (by kernel_rfl) trivial (q_fieldAddr ttOk rfl) rfl (rdk_take 5 rfl (by kernel_rfl) trivial (q_load ttOk rfl) rfl (rdk_one 6 (by kernel_rfl) (rdo_call (nm := 9) rfl trivial (cf rfl) (c_l8Entries b.entries h) (rs_of rfl) rfl rfl rfl (rdk_take 7 rfl (by kernel_rfl) trivial (q_build ttOk rfl) rfl (rdk_one 8 (by kernel_rfl) (rdo_brk rfl rfl trivial (e_store ttOk rfl) (rdb_endq (by kernel_rfl) (et (ev_ret (ret_pure' ttOk rfl rfl ?_))))))))))))))))))))))
 rfl
end Go.Proofs.YtphaggopgdbojaaGreat
