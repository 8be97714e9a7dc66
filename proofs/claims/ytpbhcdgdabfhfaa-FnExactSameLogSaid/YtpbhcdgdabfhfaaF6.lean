/- Walks of functions of the program, printed by a program of the prover. -/
import Derived.Test.YtpbhcdgdabfhfaaF5
namespace Go.Proofs.Ytpbhcdgdabfhfaa
open Go.ChangeShapes Go.WideShapes Go.ChangeAt Go.RowKit
set_option linter.unusedVariables false
set_option linter.unusedSimpArgs false
set_option maxHeartbeats 1000000
set_option maxRecDepth 100000
attribute [local irreducible] EvL Ev EvE Quiet Eff Pure RDk RDb RDo
theorem diskOk_sizes {d : Disk} (h : diskOk d = true) : d.kept.length ≤ 40 ∧ d.wait.length ≤ 60 ∧ 1 ≤ d.kept.length ∧ (∀ r ∈ d.kept, rowOk r = true) ∧ ∀ x ∈ d.wait, writeOk d x = true := by
  simp only [diskOk, Bool.and_eq_true, decide_eq_true_eq, List.all_eq_true] at h
  exact ⟨h.2.1, h.2.2.1, h.1, h.2.2.2.1, h.2.2.2.2⟩
theorem twoOk_both {t : Two} (h : twoOk t = true) : diskOk t.a = true ∧ diskOk t.b = true := by
  simp only [twoOk, Bool.and_eq_true] at h
  exact ⟨h.1, h.2.1⟩
theorem kept_len {d : Disk} (h : diskOk d = true) {k : Nat} (hk : k < d.kept.length) : d.kept[k].length ≤ 48 := (rowOk_nums ((diskOk_sizes h).2.2.2.1 _ (List.getElem_mem hk))).1
theorem wait_len {d : Disk} (h : diskOk d = true) {k : Nat} (hk : k < d.wait.length) : d.wait[k].2.length ≤ 48 := by
  have := (diskOk_sizes h).2.2.2.2 _ (List.getElem_mem hk)
  simp only [writeOk, Bool.and_eq_true] at this
  exact (rowOk_nums this.2).1
theorem map_next {α β : Type} {f : α → β} {l : List α} {k : Nat} (hk : k < l.length) : (l.take k).map f ++ [f l[k]] = (l.take (k + 1)).map f := by
  rw [List.take_succ_eq_append_getElem hk, List.map_append]; rfl
theorem take_end {α : Type} {l : List α} {k : Nat} (hk : ¬ k < l.length) : l.take k = l := List.take_of_length_le (by omega)
@[reducible] def rowsR (l : List (List Int)) : RC := .s 82 1 (l.map fun r => [ints r])
@[reducible] def writesR (l : List (Int × List Int)) : RC := .s 89 2 (l.map fun x => [iC x.1, ints x.2])
@[reducible] def diskR (d : Disk) : List RC := [rowsR d.kept, writesR d.wait]
@[reducible] def twoR (t : Two) : List RC := [rowsR t.a.kept, writesR t.a.wait, rowsR t.b.kept, writesR t.b.wait]
theorem c_TwoOk (t : Two) : Pure Try.prog 68 [many (twoC t)] (bR (twoOk t)) := by
  refine pure_intro (N := 22) Try.func68 rfl rfl rfl rfl (fun H w => ?_)
  (repeat refine sq ?_)
  refine rg ?_
  refine evl_e (e_box rfl rfl rfl rfl) ?_
  refine xs rfl rfl ?_
  refine nl ?_
  (repeat first | refine et ?_ | refine eb ?_)
  (repeat refine sq ?_)
  refine rg ?_
  refine xf ttOk rfl rfl ?_
  refine xl ttOk rfl rfl ?_
  refine evl_call (nm := 5) (cf rfl) (c_DiskOk ⟨_, _⟩) (rs_of rfl) rfl rfl rfl ?_
  refine xm rfl rfl ?_
  refine evl_part rfl rfl (fun h1 => ?_) (fun h1 => ?_)
  · refine go h1 rfl rfl (q_fieldAddr ttOk rfl) rfl ?_
    refine go h1 rfl rfl (q_load ttOk rfl) rfl ?_
    refine evl_callg rfl rfl h1 (nm := 9) (cf rfl) (c_DiskOk ⟨_, _⟩) (rs_of rfl) rfl rfl rfl ?_
    refine xo (q_pick_t rfl h1 rfl) rfl ?_
    refine xm rfl rfl ?_
    refine evl_part rfl rfl (fun h2 => ?_) (fun h2 => ?_)
    · refine go h2 rfl rfl (q_fieldAddr ttOk rfl) rfl ?_
      refine go h2 rfl rfl (q_fieldAddr ttOk rfl) rfl ?_
      refine go h2 rfl rfl (q_load ttOk rfl) rfl ?_
      refine go h2 rfl rfl (q_len_map ttOk rfl rfl) rfl ?_
      refine go h2 rfl rfl (q_fieldAddr ttOk rfl) rfl ?_
      refine go h2 rfl rfl (q_fieldAddr ttOk rfl) rfl ?_
      refine go h2 rfl rfl (q_load ttOk rfl) rfl ?_
      refine go h2 rfl rfl (q_len_map ttOk rfl rfl) rfl ?_
      refine go h2 rfl rfl (q_bin ttOk rfl) rfl ?_
      refine xo (q_pick_t rfl h2 rfl) rfl ?_
      refine xs rfl rfl ?_
      refine nl ?_
      (repeat first | refine et ?_ | refine eb ?_)
      (repeat refine sq ?_)
      refine ev_ret ?_
      (repeat first | refine evr_then ?_ | refine evr_blk ?_)
      refine ret_pure' ttOk rfl rfl ?_
      refine congrArg bR (?_ : _ = _)
      simp [twoOk, h1, h2]; omega
    · refine gn h2 rfl rfl rfl ?_
      refine gn h2 rfl rfl rfl ?_
      refine gn h2 rfl rfl rfl ?_
      refine gn h2 rfl rfl rfl ?_
      refine gn h2 rfl rfl rfl ?_
      refine gn h2 rfl rfl rfl ?_
      refine gn h2 rfl rfl rfl ?_
      refine gn h2 rfl rfl rfl ?_
      refine gn h2 rfl rfl rfl ?_
      refine xo (q_pick_f rfl h2 rfl) rfl ?_
      refine xs rfl rfl ?_
      refine nl ?_
      (repeat first | refine et ?_ | refine eb ?_)
      (repeat refine sq ?_)
      refine ev_ret ?_
      (repeat first | refine evr_then ?_ | refine evr_blk ?_)
      refine ret_pure' ttOk rfl rfl ?_
      refine congrArg bR (?_ : _ = _)
      simp [twoOk, h1, h2]
  · refine gn h1 rfl rfl rfl ?_
    refine gn h1 rfl rfl rfl ?_
    refine gn h1 rfl rfl rfl ?_
    refine xo (q_pick_f rfl h1 rfl) rfl ?_
    refine xm rfl rfl ?_
    refine gn rfl rfl rfl rfl ?_
    refine gn rfl rfl rfl rfl ?_
    refine gn rfl rfl rfl rfl ?_
    refine gn rfl rfl rfl rfl ?_
    refine gn rfl rfl rfl rfl ?_
    refine gn rfl rfl rfl rfl ?_
    refine gn rfl rfl rfl rfl ?_
    refine gn rfl rfl rfl rfl ?_
    refine gn rfl rfl rfl rfl ?_
    refine xo (q_pick_f rfl rfl rfl) rfl ?_
    refine xs rfl rfl ?_
    refine nl ?_
    (repeat first | refine et ?_ | refine eb ?_)
    (repeat refine sq ?_)
    refine ev_ret ?_
    (repeat first | refine evr_then ?_ | refine evr_blk ?_)
    refine ret_pure' ttOk rfl rfl ?_
    refine congrArg bR (?_ : _ = _)
    simp [twoOk, h1]
theorem c_TwoOk' (t : Two) : Pure Try.prog 75 [many (twoC t)] (bR (twoOk t)) := by
  refine pure_intro (N := 22) Try.func75 rfl rfl rfl rfl (fun H w => ?_)
  (repeat refine sq ?_)
  refine rg ?_
  refine evl_e (e_box rfl rfl rfl rfl) ?_
  refine xs rfl rfl ?_
  refine nl ?_
  (repeat first | refine et ?_ | refine eb ?_)
  (repeat refine sq ?_)
  refine rg ?_
  refine xf ttOk rfl rfl ?_
  refine xl ttOk rfl rfl ?_
  refine evl_call (nm := 5) (cf rfl) (c_DiskOk' ⟨_, _⟩) (rs_of rfl) rfl rfl rfl ?_
  refine xm rfl rfl ?_
  refine evl_part rfl rfl (fun h1 => ?_) (fun h1 => ?_)
  · refine go h1 rfl rfl (q_fieldAddr ttOk rfl) rfl ?_
    refine go h1 rfl rfl (q_load ttOk rfl) rfl ?_
    refine evl_callg rfl rfl h1 (nm := 9) (cf rfl) (c_DiskOk' ⟨_, _⟩) (rs_of rfl) rfl rfl rfl ?_
    refine xo (q_pick_t rfl h1 rfl) rfl ?_
    refine xm rfl rfl ?_
    refine evl_part rfl rfl (fun h2 => ?_) (fun h2 => ?_)
    · refine go h2 rfl rfl (q_fieldAddr ttOk rfl) rfl ?_
      refine go h2 rfl rfl (q_fieldAddr ttOk rfl) rfl ?_
      refine go h2 rfl rfl (q_load ttOk rfl) rfl ?_
      refine go h2 rfl rfl (q_len_map ttOk rfl rfl) rfl ?_
      refine go h2 rfl rfl (q_fieldAddr ttOk rfl) rfl ?_
      refine go h2 rfl rfl (q_fieldAddr ttOk rfl) rfl ?_
      refine go h2 rfl rfl (q_load ttOk rfl) rfl ?_
      refine go h2 rfl rfl (q_len_map ttOk rfl rfl) rfl ?_
      refine go h2 rfl rfl (q_bin ttOk rfl) rfl ?_
      refine xo (q_pick_t rfl h2 rfl) rfl ?_
      refine xs rfl rfl ?_
      refine nl ?_
      (repeat first | refine et ?_ | refine eb ?_)
      (repeat refine sq ?_)
      refine ev_ret ?_
      (repeat first | refine evr_then ?_ | refine evr_blk ?_)
      refine ret_pure' ttOk rfl rfl ?_
      refine congrArg bR (?_ : _ = _)
      simp [twoOk, h1, h2]; omega
    · refine gn h2 rfl rfl rfl ?_
      refine gn h2 rfl rfl rfl ?_
      refine gn h2 rfl rfl rfl ?_
      refine gn h2 rfl rfl rfl ?_
      refine gn h2 rfl rfl rfl ?_
      refine gn h2 rfl rfl rfl ?_
      refine gn h2 rfl rfl rfl ?_
      refine gn h2 rfl rfl rfl ?_
      refine gn h2 rfl rfl rfl ?_
      refine xo (q_pick_f rfl h2 rfl) rfl ?_
      refine xs rfl rfl ?_
      refine nl ?_
      (repeat first | refine et ?_ | refine eb ?_)
      (repeat refine sq ?_)
      refine ev_ret ?_
      (repeat first | refine evr_then ?_ | refine evr_blk ?_)
      refine ret_pure' ttOk rfl rfl ?_
      refine congrArg bR (?_ : _ = _)
      simp [twoOk, h1, h2]
  · refine gn h1 rfl rfl rfl ?_
    refine gn h1 rfl rfl rfl ?_
    refine gn h1 rfl rfl rfl ?_
    refine xo (q_pick_f rfl h1 rfl) rfl ?_
    refine xm rfl rfl ?_
    refine gn rfl rfl rfl rfl ?_
    refine gn rfl rfl rfl rfl ?_
    refine gn rfl rfl rfl rfl ?_
    refine gn rfl rfl rfl rfl ?_
    refine gn rfl rfl rfl rfl ?_
    refine gn rfl rfl rfl rfl ?_
    refine gn rfl rfl rfl rfl ?_
    refine gn rfl rfl rfl rfl ?_
    refine gn rfl rfl rfl rfl ?_
    refine xo (q_pick_f rfl rfl rfl) rfl ?_
    refine xs rfl rfl ?_
    refine nl ?_
    (repeat first | refine et ?_ | refine eb ?_)
    (repeat refine sq ?_)
    refine ev_ret ?_
    (repeat first | refine evr_then ?_ | refine evr_blk ?_)
    refine ret_pure' ttOk rfl rfl ?_
    refine congrArg bR (?_ : _ = _)
    simp [twoOk, h1]
theorem c_KeptOk (t : Two) : Pure Try.prog 40 [many (twoC t)] (bR (keptOk t)) := by
  refine pure_intro (N := 12) Try.func40 rfl rfl rfl rfl (fun H w => ?_)
  (repeat refine sq ?_)
  refine rg ?_
  refine evl_e (e_box rfl rfl rfl rfl) ?_
  refine xs rfl rfl ?_
  refine nl ?_
  (repeat first | refine et ?_ | refine eb ?_)
  (repeat refine sq ?_)
  refine rg ?_
  refine xl ttOk rfl rfl ?_
  refine evl_call (nm := 4) (cf rfl) (c_TwoOk ⟨⟨_, _⟩, ⟨_, _⟩⟩) (rs_of rfl) rfl rfl rfl ?_
  refine xm rfl rfl ?_
  refine evl_part rfl rfl (fun h1 => ?_) (fun h1 => ?_)
  · refine go h1 rfl rfl (q_fieldAddr ttOk rfl) rfl ?_
    refine go h1 rfl rfl (q_fieldAddr ttOk rfl) rfl ?_
    refine go h1 rfl rfl (q_load ttOk rfl) rfl ?_
    refine go h1 rfl rfl (q_len_map ttOk rfl rfl) rfl ?_
    refine go h1 rfl rfl (q_bin ttOk rfl) rfl ?_
    refine xo (q_pick_t rfl h1 rfl) rfl ?_
    refine xs rfl rfl ?_
    refine nl ?_
    (repeat first | refine et ?_ | refine eb ?_)
    (repeat refine sq ?_)
    refine ev_ret ?_
    (repeat first | refine evr_then ?_ | refine evr_blk ?_)
    refine ret_pure' ttOk rfl rfl ?_
    refine congrArg bR (?_ : _ = _)
    simp [keptOk, h1]; omega
  · refine gn h1 rfl rfl rfl ?_
    refine gn h1 rfl rfl rfl ?_
    refine gn h1 rfl rfl rfl ?_
    refine gn h1 rfl rfl rfl ?_
    refine gn h1 rfl rfl rfl ?_
    refine xo (q_pick_f rfl h1 rfl) rfl ?_
    refine xs rfl rfl ?_
    refine nl ?_
    (repeat first | refine et ?_ | refine eb ?_)
    (repeat refine sq ?_)
    refine ev_ret ?_
    (repeat first | refine evr_then ?_ | refine evr_blk ?_)
    refine ret_pure' ttOk rfl rfl ?_
    refine congrArg bR (?_ : _ = _)
    simp [keptOk, h1]
theorem c_KeptOk' (t : Two) : Pure Try.prog 44 [many (twoC t)] (bR (keptOk t)) := by
  refine pure_intro (N := 12) Try.func44 rfl rfl rfl rfl (fun H w => ?_)
  (repeat refine sq ?_)
  refine rg ?_
  refine evl_e (e_box rfl rfl rfl rfl) ?_
  refine xs rfl rfl ?_
  refine nl ?_
  (repeat first | refine et ?_ | refine eb ?_)
  (repeat refine sq ?_)
  refine rg ?_
  refine xl ttOk rfl rfl ?_
  refine evl_call (nm := 4) (cf rfl) (c_TwoOk' ⟨⟨_, _⟩, ⟨_, _⟩⟩) (rs_of rfl) rfl rfl rfl ?_
  refine xm rfl rfl ?_
  refine evl_part rfl rfl (fun h1 => ?_) (fun h1 => ?_)
  · refine go h1 rfl rfl (q_fieldAddr ttOk rfl) rfl ?_
    refine go h1 rfl rfl (q_fieldAddr ttOk rfl) rfl ?_
    refine go h1 rfl rfl (q_load ttOk rfl) rfl ?_
    refine go h1 rfl rfl (q_len_map ttOk rfl rfl) rfl ?_
    refine go h1 rfl rfl (q_bin ttOk rfl) rfl ?_
    refine xo (q_pick_t rfl h1 rfl) rfl ?_
    refine xs rfl rfl ?_
    refine nl ?_
    (repeat first | refine et ?_ | refine eb ?_)
    (repeat refine sq ?_)
    refine ev_ret ?_
    (repeat first | refine evr_then ?_ | refine evr_blk ?_)
    refine ret_pure' ttOk rfl rfl ?_
    refine congrArg bR (?_ : _ = _)
    simp [keptOk, h1]; omega
  · refine gn h1 rfl rfl rfl ?_
    refine gn h1 rfl rfl rfl ?_
    refine gn h1 rfl rfl rfl ?_
    refine gn h1 rfl rfl rfl ?_
    refine gn h1 rfl rfl rfl ?_
    refine xo (q_pick_f rfl h1 rfl) rfl ?_
    refine xs rfl rfl ?_
    refine nl ?_
    (repeat first | refine et ?_ | refine eb ?_)
    (repeat refine sq ?_)
    refine ev_ret ?_
    (repeat first | refine evr_then ?_ | refine evr_blk ?_)
    refine ret_pure' ttOk rfl rfl ?_
    refine congrArg bR (?_ : _ = _)
    simp [keptOk, h1]

end Go.Proofs.Ytpbhcdgdabfhfaa
