/- Walks of functions of the program, printed by a program of the prover. -/
import Derived.Test.YtpbhcdgdabfhfaaF19
import Derived.Test.YtpbhcdgdabfhfaaVN
namespace Go.Proofs.Ytpbhcdgdabfhfaa
open Go.ChangeShapes Go.WideShapes Go.ChangeAt Go.RowKit
set_option linter.unusedVariables false
set_option linter.unusedSimpArgs false
set_option maxHeartbeats 1000000
set_option maxRecDepth 100000
attribute [local irreducible] EvL Ev EvE Quiet Eff Pure RDk RDb RDo
def eqX {α : Type} [DecidableEq α] (l m : List α) : Bool := decide (l = m)
theorem eqX_len {α : Type} [DecidableEq α] {l m : List α} (h : (l.length : Int) ≠ m.length) : eqX l m = false := decide_eq_false fun e => h (by rw [e])
theorem eqX_at {α : Type} [DecidableEq α] {l m : List α} {k : Nat} (h1 : k < l.length) (h2 : k < m.length) (h : l[k] ≠ m[k]) : eqX l m = false := decide_eq_false fun e => h (by subst e; rfl)
theorem eqX_all {α : Type} [DecidableEq α] {l m : List α} {k : Nat} (h1 : ¬ k < l.length) (h2 : l.length = m.length) (hp : l.take k = m.take k) : eqX l m = true := decide_eq_true (take_all h1 h2 hp)
def eqD (d e : Disk) : Bool := eqX d.kept e.kept && eqX d.wait e.wait
def eqHd (a b : Head) : Bool := decide (a.num = b.num) && (decide (a.base = b.base) && (decide (a.time = b.time) && eqN Mark.nums a.seen b.seen))
def eqBk (a b : Book) : Bool := decide (a.base = b.base) && (decide (a.time = b.time) && eqN Entry.nums a.entries b.entries)
def wEq (x y : Int × List Int) : Bool := decide (x.1 = y.1) && eqL x.2 y.2
theorem wEq_no {x y : Int × List Int} (h : wEq x y = false) : x ≠ y := fun e => by subst e; simp [wEq, eqL] at h
theorem wEq_yes {x y : Int × List Int} (h : wEq x y = true) : x = y := by
  simp only [wEq, eqL, Bool.and_eq_true, decide_eq_true_eq] at h
  exact Prod.ext h.1 h.2
theorem eqL_no {x y : List Int} (h : eqL x y = false) : x ≠ y := of_decide_eq_false h
theorem eqL_yes {x y : List Int} (h : eqL x y = true) : x = y := of_decide_eq_true h
theorem at_no {x y : Int × List Int} (h : ¬ x.1 = y.1) : x ≠ y := fun e => h (by rw [e])
theorem at_no2 {x y : Int × List Int} (h : eqL x.2 y.2 = false) : x ≠ y := fun e => eqL_no h (by rw [e])
theorem at_yes {x y : Int × List Int} (h : x.1 = y.1) (h2 : eqL x.2 y.2 = true) : x = y := Prod.ext h (eqL_yes h2)
def sameL (a b : LogN) : Bool := eqD a.two.a b.two.a && (eqD a.two.b b.two.b && (eqHd a.head b.head && (eqHd a.next b.next && ((a.more == b.more) && (eqBk a.book b.book && (eqN Mark.nums a.seen b.seen && (decide (a.durable = b.durable) && eqN Ack.nums a.owe b.owe)))))))
theorem c_l8Same (l m : List Entry) : Pure Try.prog 53 [one (entries l), one (entries m)] (bR (eqN Entry.nums l m)) := by
  refine pure_intro (N := 26) Try.func53 rfl rfl rfl rfl (fun H w => ?_)
  refine ev_lenm (t := 0) rfl (fun hL => ?_)
  refine ev_lenm (t := 1) rfl (fun hM => ?_)
  (repeat refine sq ?_)
  refine rg ?_
  refine xs rfl rfl ?_
  refine nl ?_
  (repeat first | refine et ?_ | refine eb ?_)
  (repeat refine sq ?_)
  refine rg ?_
  refine xm rfl rfl ?_
  refine xo (q_len_map ttOk rfl rfl) rfl ?_
  refine xm rfl rfl ?_
  refine xo (q_len_map ttOk rfl rfl) rfl ?_
  refine xb ttOk rfl rfl ?_
  refine nl ?_
  (repeat first | refine et ?_ | refine eb ?_)
  (repeat refine sq ?_)
  refine ev_cond rfl (fun h1 => ?_) (fun h1 => ?_)
  · have d1 := of_decide_eq_true h1
    (repeat refine sq ?_)
    refine rg ?_
    refine xs rfl rfl ?_
    refine nl ?_
    (repeat first | refine et ?_ | refine eb ?_)
    (repeat refine sq ?_)
    refine ev_ret ?_
    (repeat first | refine evr_then ?_ | refine evr_blk ?_)
    refine ret_pure' ttOk rfl rfl ?_
    refine congrArg bR (?_ : _ = _)
    rw [eqN_len d1]
  · have d1 := of_decide_eq_false h1
    have hlen : l.length = m.length := by omega
    (repeat refine sq ?_)
    refine ev_skip ?_
    (repeat first | refine et ?_ | refine eb ?_)
    (repeat refine sq ?_)
    refine rg ?_
    refine xs rfl rfl ?_
    refine nl ?_
    (repeat first | refine et ?_ | refine eb ?_)
    (repeat refine sq ?_)
    refine ev_blk ?_
    (repeat refine sq ?_)
    refine ev_loop (fun k : Nat => (⟨[(5, iV k), (0, cV (entries l)), (1, cV (entries m))], [], [], []⟩ : St)) (fun k => k ≤ l.length ∧ (l.take k).map Entry.nums = (m.take k).map Entry.nums) (fun k => l.length - k) 0 [] (⟨by simp, by simp⟩) ⟨by (repeat first | exact trivial | refine ⟨rfl, ?_⟩), by (repeat first | exact trivial | refine ⟨rfl, ?_⟩), by (repeat first | exact trivial | refine ⟨⟨_, rfl, rfl⟩, ?_⟩), by (repeat first | exact trivial | refine ⟨⟨_, rfl, rfl⟩, ?_⟩), rfl⟩ ?_
    intro k hp
    obtain ⟨p0, p1⟩ := hp
    show Ev _ _ _ _ (⟨[(5, iV k), (0, cV (entries l)), (1, cV (entries m))], [], [], []⟩ : St)
    (repeat refine sq ?_)
    refine rg ?_
    refine xm rfl rfl ?_
    refine xm rfl rfl ?_
    refine xo (q_len_map ttOk rfl rfl) rfl ?_
    refine xb ttOk rfl rfl ?_
    refine nl ?_
    (repeat first | refine et ?_ | refine eb ?_)
    (repeat refine sq ?_)
    refine ev_cond rfl (fun h2 => ?_) (fun h2 => ?_)
    · have d2 := of_decide_eq_true h2
      (repeat refine sq ?_)
      refine ev_skip ?_
      (repeat first | refine et ?_ | refine eb ?_)
      (repeat refine sq ?_)
      refine ev_blk ?_
      (repeat refine sq ?_)
      refine ev_drawq [] mo ?_
      refine rdk_take 0 rfl (by kernel_rfl) trivial (q_move rfl) rfl ?_
      refine rdk_take 1 rfl (by kernel_rfl) trivial (q_move rfl) rfl ?_
      refine rdk_take 2 rfl (by kernel_rfl) trivial (q_ix_map ttOk rfl rfl rfl rfl (by omega)) rfl ?_
      refine rdk_take 3 rfl (by kernel_rfl) trivial (q_load ttOk rfl) rfl ?_
      refine rdk_take 4 rfl (by kernel_rfl) trivial (q_move rfl) rfl ?_
      refine rdk_take 5 rfl (by kernel_rfl) trivial (q_move rfl) rfl ?_
      refine rdk_take 6 rfl (by kernel_rfl) trivial (q_ix_map ttOk rfl rfl rfl rfl (by omega)) rfl ?_
      refine rdk_take 7 rfl (by kernel_rfl) trivial (q_load ttOk rfl) rfl ?_
      first | refine rdk_take 8 rfl (by kernel_rfl) trivial (q_eqT (n := 9) (by kernel_rfl) rfl rfl rfl rfl rfl rfl rfl) rfl ?_ | refine rdk_take 8 rfl (by kernel_rfl) trivial (q_bin ttOk rfl) rfl ?_
      refine rdk_endq (by kernel_rfl) ?_
      (repeat first | refine et ?_ | refine eb ?_)
      (repeat refine sq ?_)
      refine ev_cond rfl (fun h3 => ?_) (fun h3 => ?_)
      · have d3 := of_decide_eq_true h3
        (repeat refine sq ?_)
        refine rg ?_
        refine xs rfl rfl ?_
        refine nl ?_
        (repeat first | refine et ?_ | refine eb ?_)
        (repeat refine sq ?_)
        refine ev_ret ?_
        (repeat first | refine evr_then ?_ | refine evr_blk ?_)
        refine ret_pure' ttOk rfl rfl ?_
        refine congrArg bR (?_ : _ = _)
        rw [eqN_at (k := k) (by omega) (by omega) d3]
      · have d3 := of_decide_eq_false h3
        (repeat refine sq ?_)
        refine ev_skip ?_
        (repeat first | refine et ?_ | refine eb ?_)
        (repeat refine sq ?_)
        refine rg ?_
        refine xm rfl rfl ?_
        refine xa rfl rfl rfl (by omega) rfl ?_
        refine xs rfl rfl ?_
        refine nl ?_
        (repeat first | refine et ?_ | refine eb ?_)
        (repeat first | refine et ?_ | refine eb ?_)
        refine eve_round (k + 1) [] ?hp ⟨by (repeat first | exact trivial | refine ⟨rfl, ?_⟩), by (repeat first | exact trivial | refine ⟨rfl, ?_⟩), by (repeat first | exact trivial | refine ⟨⟨_, rfl, rfl⟩, ?_⟩), by (repeat first | exact trivial | refine ⟨⟨_, rfl, rfl⟩, ?_⟩), rfl⟩
        case hp => exact ⟨⟨by omega, takeN (by omega) (by omega) p1 (Decidable.not_not.1 d3)⟩, by omega⟩
    · have d2 := of_decide_eq_false h2
      (repeat refine sq ?_)
      refine ev_exit ?_
      (repeat first | refine evx_then ?_ | refine evx_hit ?_ | refine evx_miss rfl ?_)
      (repeat first | refine et ?_ | refine eb ?_)
      (repeat refine sq ?_)
      refine rg ?_
      refine xs rfl rfl ?_
      refine nl ?_
      (repeat first | refine et ?_ | refine eb ?_)
      (repeat refine sq ?_)
      refine ev_ret ?_
      (repeat first | refine evr_then ?_ | refine evr_blk ?_)
      refine ret_pure' ttOk rfl rfl ?_
      refine congrArg bR (?_ : _ = _)
      exact (takeN_all (by omega) hlen p1).symm
theorem c_eqEntries (l m : List Entry) : Pure Try.prog 61 [one (entries l), one (entries m)] (bR (eqN Entry.nums l m)) := by
  refine pure_intro (N := 26) Try.func61 rfl rfl rfl rfl (fun H w => ?_)
  refine ev_lenm (t := 0) rfl (fun hL => ?_)
  refine ev_lenm (t := 1) rfl (fun hM => ?_)
  (repeat refine sq ?_)
  refine rg ?_
  refine xs rfl rfl ?_
  refine nl ?_
  (repeat first | refine et ?_ | refine eb ?_)
  (repeat refine sq ?_)
  refine rg ?_
  refine xm rfl rfl ?_
  refine xo (q_len_map ttOk rfl rfl) rfl ?_
  refine xm rfl rfl ?_
  refine xo (q_len_map ttOk rfl rfl) rfl ?_
  refine xb ttOk rfl rfl ?_
  refine nl ?_
  (repeat first | refine et ?_ | refine eb ?_)
  (repeat refine sq ?_)
  refine ev_cond rfl (fun h1 => ?_) (fun h1 => ?_)
  · have d1 := of_decide_eq_true h1
    (repeat refine sq ?_)
    refine rg ?_
    refine xs rfl rfl ?_
    refine nl ?_
    (repeat first | refine et ?_ | refine eb ?_)
    (repeat refine sq ?_)
    refine ev_ret ?_
    (repeat first | refine evr_then ?_ | refine evr_blk ?_)
    refine ret_pure' ttOk rfl rfl ?_
    refine congrArg bR (?_ : _ = _)
    rw [eqN_len d1]
  · have d1 := of_decide_eq_false h1
    have hlen : l.length = m.length := by omega
    (repeat refine sq ?_)
    refine ev_skip ?_
    (repeat first | refine et ?_ | refine eb ?_)
    (repeat refine sq ?_)
    refine rg ?_
    refine xm rfl rfl ?_
    refine xo (q_len_map ttOk rfl rfl) rfl ?_
    refine xm rfl rfl ?_
    refine nl ?_
    (repeat first | refine et ?_ | refine eb ?_)
    (repeat refine sq ?_)
    refine ev_blk ?_
    (repeat refine sq ?_)
    refine ev_loop (fun k : Nat => (⟨[(13, iV k), (12, iV l.length), (0, cV (entries l)), (1, cV (entries m))], [], [], []⟩ : St)) (fun k => k ≤ l.length ∧ (l.take k).map Entry.nums = (m.take k).map Entry.nums) (fun k => l.length - k) 0 [] (⟨by simp, by simp⟩) ⟨by (repeat first | exact trivial | refine ⟨rfl, ?_⟩), by (repeat first | exact trivial | refine ⟨rfl, ?_⟩), by (repeat first | exact trivial | refine ⟨⟨_, rfl, rfl⟩, ?_⟩), by (repeat first | exact trivial | refine ⟨⟨_, rfl, rfl⟩, ?_⟩), rfl⟩ ?_
    intro k hp
    obtain ⟨p0, p1⟩ := hp
    show Ev _ _ _ _ (⟨[(13, iV k), (12, iV l.length), (0, cV (entries l)), (1, cV (entries m))], [], [], []⟩ : St)
    (repeat refine sq ?_)
    refine rg ?_
    refine xb ttOk rfl rfl ?_
    refine nl ?_
    (repeat first | refine et ?_ | refine eb ?_)
    (repeat refine sq ?_)
    refine ev_cond rfl (fun h2 => ?_) (fun h2 => ?_)
    · have d2 := of_decide_eq_true h2
      (repeat refine sq ?_)
      refine ev_skip ?_
      (repeat first | refine et ?_ | refine eb ?_)
      (repeat refine sq ?_)
      refine ev_blk ?_
      (repeat refine sq ?_)
      refine rg ?_
      refine xm rfl rfl ?_
      refine xs rfl rfl ?_
      refine nl ?_
      (repeat first | refine et ?_ | refine eb ?_)
      (repeat refine sq ?_)
      refine ev_drawq [] mo ?_
      refine rdk_take 0 rfl (by kernel_rfl) trivial (q_move rfl) rfl ?_
      refine rdk_take 1 rfl (by kernel_rfl) trivial (q_move rfl) rfl ?_
      refine rdk_take 2 rfl (by kernel_rfl) trivial (q_ix_map ttOk rfl rfl rfl rfl (by omega)) rfl ?_
      refine rdk_take 3 rfl (by kernel_rfl) trivial (q_load ttOk rfl) rfl ?_
      refine rdk_take 4 rfl (by kernel_rfl) trivial (q_move rfl) rfl ?_
      refine rdk_take 5 rfl (by kernel_rfl) trivial (q_move rfl) rfl ?_
      refine rdk_take 6 rfl (by kernel_rfl) trivial (q_ix_map ttOk rfl rfl rfl rfl (by omega)) rfl ?_
      refine rdk_take 7 rfl (by kernel_rfl) trivial (q_load ttOk rfl) rfl ?_
      first | refine rdk_take 8 rfl (by kernel_rfl) trivial (q_eqT (n := 9) (by kernel_rfl) rfl rfl rfl rfl rfl rfl rfl) rfl ?_ | refine rdk_take 8 rfl (by kernel_rfl) trivial (q_bin ttOk rfl) rfl ?_
      refine rdk_endq (by kernel_rfl) ?_
      (repeat first | refine et ?_ | refine eb ?_)
      (repeat refine sq ?_)
      refine ev_cond rfl (fun h3 => ?_) (fun h3 => ?_)
      · have d3 := of_decide_eq_true h3
        (repeat refine sq ?_)
        refine rg ?_
        refine xs rfl rfl ?_
        refine nl ?_
        (repeat first | refine et ?_ | refine eb ?_)
        (repeat refine sq ?_)
        refine ev_ret ?_
        (repeat first | refine evr_then ?_ | refine evr_blk ?_)
        refine ret_pure' ttOk rfl rfl ?_
        refine congrArg bR (?_ : _ = _)
        rw [eqN_at (k := k) (by omega) (by omega) d3]
      · have d3 := of_decide_eq_false h3
        (repeat refine sq ?_)
        refine ev_skip ?_
        (repeat first | refine et ?_ | refine eb ?_)
        (repeat refine sq ?_)
        refine rg ?_
        refine xa rfl rfl rfl (by omega) rfl ?_
        refine xm rfl rfl ?_
        refine nl ?_
        (repeat first | refine et ?_ | refine eb ?_)
        (repeat first | refine et ?_ | refine eb ?_)
        refine eve_round (k + 1) [] ?hp ⟨by (repeat first | exact trivial | refine ⟨rfl, ?_⟩), by (repeat first | exact trivial | refine ⟨rfl, ?_⟩), by (repeat first | exact trivial | refine ⟨⟨_, rfl, rfl⟩, ?_⟩), by (repeat first | exact trivial | refine ⟨⟨_, rfl, rfl⟩, ?_⟩), rfl⟩
        case hp => exact ⟨⟨by omega, takeN (by omega) (by omega) p1 (Decidable.not_not.1 d3)⟩, by omega⟩
    · have d2 := of_decide_eq_false h2
      (repeat refine sq ?_)
      refine ev_exit ?_
      (repeat first | refine evx_then ?_ | refine evx_hit ?_ | refine evx_miss rfl ?_)
      (repeat first | refine et ?_ | refine eb ?_)
      (repeat refine sq ?_)
      refine rg ?_
      refine xs rfl rfl ?_
      refine nl ?_
      (repeat first | refine et ?_ | refine eb ?_)
      (repeat refine sq ?_)
      refine ev_ret ?_
      (repeat first | refine evr_then ?_ | refine evr_blk ?_)
      refine ret_pure' ttOk rfl rfl ?_
      refine congrArg bR (?_ : _ = _)
      exact (takeN_all (by omega) hlen p1).symm
theorem c_SameBook (x y : Book) : Pure Try.prog 25 [many (bookC x), many (bookC y)] (bR (eqBk x y)) := by
  refine pure_intro (N := 24) Try.func25 rfl rfl rfl rfl (fun H w => ?_)
  (repeat refine sq ?_)
  refine rg ?_
  refine evl_e (e_box rfl rfl rfl rfl) ?_
  refine evl_e (e_box rfl rfl rfl rfl) ?_
  refine xs rfl rfl ?_
  refine nl ?_
  (repeat first | refine et ?_ | refine eb ?_)
  (repeat refine sq ?_)
  refine rg ?_
  refine xf ttOk rfl rfl ?_
  refine xl ttOk rfl rfl ?_
  refine xf ttOk rfl rfl ?_
  refine xl ttOk rfl rfl ?_
  refine xb ttOk rfl rfl ?_
  refine xm rfl rfl ?_
  refine evl_part rfl rfl (fun h1 => ?_) (fun h1 => ?_)
  · refine go h1 rfl rfl (q_fieldAddr ttOk rfl) rfl ?_
    refine go h1 rfl rfl (q_load ttOk rfl) rfl ?_
    refine go h1 rfl rfl (q_fieldAddr ttOk rfl) rfl ?_
    refine go h1 rfl rfl (q_load ttOk rfl) rfl ?_
    refine go h1 rfl rfl (q_bin ttOk rfl) rfl ?_
    refine xo (q_pick_t rfl h1 rfl) rfl ?_
    refine xm rfl rfl ?_
    refine evl_part rfl rfl (fun h2 => ?_) (fun h2 => ?_)
    · refine go h2 rfl rfl (q_fieldAddr ttOk rfl) rfl ?_
      refine go h2 rfl rfl (q_load ttOk rfl) rfl ?_
      refine go h2 rfl rfl (q_fieldAddr ttOk rfl) rfl ?_
      refine go h2 rfl rfl (q_load ttOk rfl) rfl ?_
      refine evl_callg rfl rfl h2 (nm := 22) (cf rfl) (c_l8Same _ _) (rs_of rfl) rfl rfl rfl ?_
      refine xo (q_pick_t rfl h2 rfl) rfl ?_
      refine xs rfl rfl ?_
      refine nl ?_
      (repeat first | refine et ?_ | refine eb ?_)
      (repeat refine sq ?_)
      refine ev_ret ?_
      (repeat first | refine evr_then ?_ | refine evr_blk ?_)
      refine ret_pure' ttOk rfl rfl ?_
      refine congrArg bR (?_ : _ = _)
      simp_all [eqBk]
    · refine gn h2 rfl rfl rfl ?_
      refine gn h2 rfl rfl rfl ?_
      refine gn h2 rfl rfl rfl ?_
      refine gn h2 rfl rfl rfl ?_
      refine gn h2 rfl rfl rfl ?_
      refine xo (q_pick_f rfl h2 rfl) rfl ?_
      refine xs rfl rfl ?_
      refine nl ?_
      (repeat first | refine et ?_ | refine eb ?_)
      (repeat refine sq ?_)
      refine ev_ret ?_
      (repeat first | refine evr_then ?_ | refine evr_blk ?_)
      refine ret_pure' ttOk rfl rfl ?_
      refine congrArg bR (?_ : _ = _)
      simp_all [eqBk]
  · refine gn h1 rfl rfl rfl ?_
    refine gn h1 rfl rfl rfl ?_
    refine gn h1 rfl rfl rfl ?_
    refine gn h1 rfl rfl rfl ?_
    refine gn h1 rfl rfl rfl ?_
    refine xo (q_pick_f rfl h1 rfl) rfl ?_
    refine xm rfl rfl ?_
    refine gn rfl rfl rfl rfl ?_
    refine gn rfl rfl rfl rfl ?_
    refine gn rfl rfl rfl rfl ?_
    refine gn rfl rfl rfl rfl ?_
    refine gn rfl rfl rfl rfl ?_
    refine xo (q_pick_f rfl rfl rfl) rfl ?_
    refine xs rfl rfl ?_
    refine nl ?_
    (repeat first | refine et ?_ | refine eb ?_)
    (repeat refine sq ?_)
    refine ev_ret ?_
    (repeat first | refine evr_then ?_ | refine evr_blk ?_)
    refine ret_pure' ttOk rfl rfl ?_
    refine congrArg bR (?_ : _ = _)
    simp_all [eqBk]
theorem c_SameBook' (x y : Book) : Pure Try.prog 33 [many (bookC x), many (bookC y)] (bR (eqBk x y)) := by
  refine pure_intro (N := 24) Try.func33 rfl rfl rfl rfl (fun H w => ?_)
  (repeat refine sq ?_)
  refine rg ?_
  refine evl_e (e_box rfl rfl rfl rfl) ?_
  refine evl_e (e_box rfl rfl rfl rfl) ?_
  refine xs rfl rfl ?_
  refine nl ?_
  (repeat first | refine et ?_ | refine eb ?_)
  (repeat refine sq ?_)
  refine rg ?_
  refine xf ttOk rfl rfl ?_
  refine xl ttOk rfl rfl ?_
  refine xf ttOk rfl rfl ?_
  refine xl ttOk rfl rfl ?_
  refine xb ttOk rfl rfl ?_
  refine xm rfl rfl ?_
  refine evl_part rfl rfl (fun h1 => ?_) (fun h1 => ?_)
  · refine go h1 rfl rfl (q_fieldAddr ttOk rfl) rfl ?_
    refine go h1 rfl rfl (q_load ttOk rfl) rfl ?_
    refine go h1 rfl rfl (q_fieldAddr ttOk rfl) rfl ?_
    refine go h1 rfl rfl (q_load ttOk rfl) rfl ?_
    refine go h1 rfl rfl (q_bin ttOk rfl) rfl ?_
    refine xo (q_pick_t rfl h1 rfl) rfl ?_
    refine xm rfl rfl ?_
    refine evl_part rfl rfl (fun h2 => ?_) (fun h2 => ?_)
    · refine go h2 rfl rfl (q_fieldAddr ttOk rfl) rfl ?_
      refine go h2 rfl rfl (q_load ttOk rfl) rfl ?_
      refine go h2 rfl rfl (q_fieldAddr ttOk rfl) rfl ?_
      refine go h2 rfl rfl (q_load ttOk rfl) rfl ?_
      refine evl_callg rfl rfl h2 (nm := 22) (cf rfl) (c_eqEntries _ _) (rs_of rfl) rfl rfl rfl ?_
      refine xo (q_pick_t rfl h2 rfl) rfl ?_
      refine xs rfl rfl ?_
      refine nl ?_
      (repeat first | refine et ?_ | refine eb ?_)
      (repeat refine sq ?_)
      refine ev_ret ?_
      (repeat first | refine evr_then ?_ | refine evr_blk ?_)
      refine ret_pure' ttOk rfl rfl ?_
      refine congrArg bR (?_ : _ = _)
      simp_all [eqBk]
    · refine gn h2 rfl rfl rfl ?_
      refine gn h2 rfl rfl rfl ?_
      refine gn h2 rfl rfl rfl ?_
      refine gn h2 rfl rfl rfl ?_
      refine gn h2 rfl rfl rfl ?_
      refine xo (q_pick_f rfl h2 rfl) rfl ?_
      refine xs rfl rfl ?_
      refine nl ?_
      (repeat first | refine et ?_ | refine eb ?_)
      (repeat refine sq ?_)
      refine ev_ret ?_
      (repeat first | refine evr_then ?_ | refine evr_blk ?_)
      refine ret_pure' ttOk rfl rfl ?_
      refine congrArg bR (?_ : _ = _)
      simp_all [eqBk]
  · refine gn h1 rfl rfl rfl ?_
    refine gn h1 rfl rfl rfl ?_
    refine gn h1 rfl rfl rfl ?_
    refine gn h1 rfl rfl rfl ?_
    refine gn h1 rfl rfl rfl ?_
    refine xo (q_pick_f rfl h1 rfl) rfl ?_
    refine xm rfl rfl ?_
    refine gn rfl rfl rfl rfl ?_
    refine gn rfl rfl rfl rfl ?_
    refine gn rfl rfl rfl rfl ?_
    refine gn rfl rfl rfl rfl ?_
    refine gn rfl rfl rfl rfl ?_
    refine xo (q_pick_f rfl rfl rfl) rfl ?_
    refine xs rfl rfl ?_
    refine nl ?_
    (repeat first | refine et ?_ | refine eb ?_)
    (repeat refine sq ?_)
    refine ev_ret ?_
    (repeat first | refine evr_then ?_ | refine evr_blk ?_)
    refine ret_pure' ttOk rfl rfl ?_
    refine congrArg bR (?_ : _ = _)
    simp_all [eqBk]
theorem c_l12SameHead (x y : Head) : Pure Try.prog 24 [many (headC x), many (headC y)] (bR (eqHd x y)) := by
  refine pure_intro (N := 31) Try.func24 rfl rfl rfl rfl (fun H w => ?_)
  (repeat refine sq ?_)
  refine rg ?_
  refine evl_e (e_box rfl rfl rfl rfl) ?_
  refine evl_e (e_box rfl rfl rfl rfl) ?_
  refine xs rfl rfl ?_
  refine nl ?_
  (repeat first | refine et ?_ | refine eb ?_)
  (repeat refine sq ?_)
  refine rg ?_
  refine xf ttOk rfl rfl ?_
  refine xl ttOk rfl rfl ?_
  refine xf ttOk rfl rfl ?_
  refine xl ttOk rfl rfl ?_
  refine xb ttOk rfl rfl ?_
  refine xm rfl rfl ?_
  refine evl_part rfl rfl (fun h1 => ?_) (fun h1 => ?_)
  · refine go h1 rfl rfl (q_fieldAddr ttOk rfl) rfl ?_
    refine go h1 rfl rfl (q_load ttOk rfl) rfl ?_
    refine go h1 rfl rfl (q_fieldAddr ttOk rfl) rfl ?_
    refine go h1 rfl rfl (q_load ttOk rfl) rfl ?_
    refine go h1 rfl rfl (q_bin ttOk rfl) rfl ?_
    refine xo (q_pick_t rfl h1 rfl) rfl ?_
    refine xm rfl rfl ?_
    refine evl_part rfl rfl (fun h2 => ?_) (fun h2 => ?_)
    · refine go h2 rfl rfl (q_fieldAddr ttOk rfl) rfl ?_
      refine go h2 rfl rfl (q_load ttOk rfl) rfl ?_
      refine go h2 rfl rfl (q_fieldAddr ttOk rfl) rfl ?_
      refine go h2 rfl rfl (q_load ttOk rfl) rfl ?_
      refine go h2 rfl rfl (q_bin ttOk rfl) rfl ?_
      refine xo (q_pick_t rfl h2 rfl) rfl ?_
      refine xm rfl rfl ?_
      refine evl_part rfl rfl (fun h3 => ?_) (fun h3 => ?_)
      · refine go h3 rfl rfl (q_fieldAddr ttOk rfl) rfl ?_
        refine go h3 rfl rfl (q_load ttOk rfl) rfl ?_
        refine go h3 rfl rfl (q_fieldAddr ttOk rfl) rfl ?_
        refine go h3 rfl rfl (q_load ttOk rfl) rfl ?_
        refine evl_callg rfl rfl h3 (nm := 29) (cf rfl) (c_SameSeen _ _) (rs_of rfl) rfl rfl rfl ?_
        refine xo (q_pick_t rfl h3 rfl) rfl ?_
        refine xs rfl rfl ?_
        refine nl ?_
        (repeat first | refine et ?_ | refine eb ?_)
        (repeat refine sq ?_)
        refine ev_ret ?_
        (repeat first | refine evr_then ?_ | refine evr_blk ?_)
        refine ret_pure' ttOk rfl rfl ?_
        refine congrArg bR (?_ : _ = _)
        simp_all [eqHd]
      · refine gn h3 rfl rfl rfl ?_
        refine gn h3 rfl rfl rfl ?_
        refine gn h3 rfl rfl rfl ?_
        refine gn h3 rfl rfl rfl ?_
        refine gn h3 rfl rfl rfl ?_
        refine xo (q_pick_f rfl h3 rfl) rfl ?_
        refine xs rfl rfl ?_
        refine nl ?_
        (repeat first | refine et ?_ | refine eb ?_)
        (repeat refine sq ?_)
        refine ev_ret ?_
        (repeat first | refine evr_then ?_ | refine evr_blk ?_)
        refine ret_pure' ttOk rfl rfl ?_
        refine congrArg bR (?_ : _ = _)
        simp_all [eqHd]
    · refine gn h2 rfl rfl rfl ?_
      refine gn h2 rfl rfl rfl ?_
      refine gn h2 rfl rfl rfl ?_
      refine gn h2 rfl rfl rfl ?_
      refine gn h2 rfl rfl rfl ?_
      refine xo (q_pick_f rfl h2 rfl) rfl ?_
      refine xm rfl rfl ?_
      refine gn rfl rfl rfl rfl ?_
      refine gn rfl rfl rfl rfl ?_
      refine gn rfl rfl rfl rfl ?_
      refine gn rfl rfl rfl rfl ?_
      refine gn rfl rfl rfl rfl ?_
      refine xo (q_pick_f rfl rfl rfl) rfl ?_
      refine xs rfl rfl ?_
      refine nl ?_
      (repeat first | refine et ?_ | refine eb ?_)
      (repeat refine sq ?_)
      refine ev_ret ?_
      (repeat first | refine evr_then ?_ | refine evr_blk ?_)
      refine ret_pure' ttOk rfl rfl ?_
      refine congrArg bR (?_ : _ = _)
      simp_all [eqHd]
  · refine gn h1 rfl rfl rfl ?_
    refine gn h1 rfl rfl rfl ?_
    refine gn h1 rfl rfl rfl ?_
    refine gn h1 rfl rfl rfl ?_
    refine gn h1 rfl rfl rfl ?_
    refine xo (q_pick_f rfl h1 rfl) rfl ?_
    refine xm rfl rfl ?_
    refine gn rfl rfl rfl rfl ?_
    refine gn rfl rfl rfl rfl ?_
    refine gn rfl rfl rfl rfl ?_
    refine gn rfl rfl rfl rfl ?_
    refine gn rfl rfl rfl rfl ?_
    refine xo (q_pick_f rfl rfl rfl) rfl ?_
    refine xm rfl rfl ?_
    refine gn rfl rfl rfl rfl ?_
    refine gn rfl rfl rfl rfl ?_
    refine gn rfl rfl rfl rfl ?_
    refine gn rfl rfl rfl rfl ?_
    refine gn rfl rfl rfl rfl ?_
    refine xo (q_pick_f rfl rfl rfl) rfl ?_
    refine xs rfl rfl ?_
    refine nl ?_
    (repeat first | refine et ?_ | refine eb ?_)
    (repeat refine sq ?_)
    refine ev_ret ?_
    (repeat first | refine evr_then ?_ | refine evr_blk ?_)
    refine ret_pure' ttOk rfl rfl ?_
    refine congrArg bR (?_ : _ = _)
    simp_all [eqHd]
theorem c_sameHead (x y : Head) : Pure Try.prog 32 [many (headC x), many (headC y)] (bR (eqHd x y)) := by
  refine pure_intro (N := 31) Try.func32 rfl rfl rfl rfl (fun H w => ?_)
  (repeat refine sq ?_)
  refine rg ?_
  refine evl_e (e_box rfl rfl rfl rfl) ?_
  refine evl_e (e_box rfl rfl rfl rfl) ?_
  refine xs rfl rfl ?_
  refine nl ?_
  (repeat first | refine et ?_ | refine eb ?_)
  (repeat refine sq ?_)
  refine rg ?_
  refine xf ttOk rfl rfl ?_
  refine xl ttOk rfl rfl ?_
  refine xf ttOk rfl rfl ?_
  refine xl ttOk rfl rfl ?_
  refine xb ttOk rfl rfl ?_
  refine xm rfl rfl ?_
  refine evl_part rfl rfl (fun h1 => ?_) (fun h1 => ?_)
  · refine go h1 rfl rfl (q_fieldAddr ttOk rfl) rfl ?_
    refine go h1 rfl rfl (q_load ttOk rfl) rfl ?_
    refine go h1 rfl rfl (q_fieldAddr ttOk rfl) rfl ?_
    refine go h1 rfl rfl (q_load ttOk rfl) rfl ?_
    refine go h1 rfl rfl (q_bin ttOk rfl) rfl ?_
    refine xo (q_pick_t rfl h1 rfl) rfl ?_
    refine xm rfl rfl ?_
    refine evl_part rfl rfl (fun h2 => ?_) (fun h2 => ?_)
    · refine go h2 rfl rfl (q_fieldAddr ttOk rfl) rfl ?_
      refine go h2 rfl rfl (q_load ttOk rfl) rfl ?_
      refine go h2 rfl rfl (q_fieldAddr ttOk rfl) rfl ?_
      refine go h2 rfl rfl (q_load ttOk rfl) rfl ?_
      refine go h2 rfl rfl (q_bin ttOk rfl) rfl ?_
      refine xo (q_pick_t rfl h2 rfl) rfl ?_
      refine xm rfl rfl ?_
      refine evl_part rfl rfl (fun h3 => ?_) (fun h3 => ?_)
      · refine go h3 rfl rfl (q_fieldAddr ttOk rfl) rfl ?_
        refine go h3 rfl rfl (q_load ttOk rfl) rfl ?_
        refine go h3 rfl rfl (q_fieldAddr ttOk rfl) rfl ?_
        refine go h3 rfl rfl (q_load ttOk rfl) rfl ?_
        refine evl_callg rfl rfl h3 (nm := 29) (cf rfl) (c_SameSeen' _ _) (rs_of rfl) rfl rfl rfl ?_
        refine xo (q_pick_t rfl h3 rfl) rfl ?_
        refine xs rfl rfl ?_
        refine nl ?_
        (repeat first | refine et ?_ | refine eb ?_)
        (repeat refine sq ?_)
        refine ev_ret ?_
        (repeat first | refine evr_then ?_ | refine evr_blk ?_)
        refine ret_pure' ttOk rfl rfl ?_
        refine congrArg bR (?_ : _ = _)
        simp_all [eqHd]
      · refine gn h3 rfl rfl rfl ?_
        refine gn h3 rfl rfl rfl ?_
        refine gn h3 rfl rfl rfl ?_
        refine gn h3 rfl rfl rfl ?_
        refine gn h3 rfl rfl rfl ?_
        refine xo (q_pick_f rfl h3 rfl) rfl ?_
        refine xs rfl rfl ?_
        refine nl ?_
        (repeat first | refine et ?_ | refine eb ?_)
        (repeat refine sq ?_)
        refine ev_ret ?_
        (repeat first | refine evr_then ?_ | refine evr_blk ?_)
        refine ret_pure' ttOk rfl rfl ?_
        refine congrArg bR (?_ : _ = _)
        simp_all [eqHd]
    · refine gn h2 rfl rfl rfl ?_
      refine gn h2 rfl rfl rfl ?_
      refine gn h2 rfl rfl rfl ?_
      refine gn h2 rfl rfl rfl ?_
      refine gn h2 rfl rfl rfl ?_
      refine xo (q_pick_f rfl h2 rfl) rfl ?_
      refine xm rfl rfl ?_
      refine gn rfl rfl rfl rfl ?_
      refine gn rfl rfl rfl rfl ?_
      refine gn rfl rfl rfl rfl ?_
      refine gn rfl rfl rfl rfl ?_
      refine gn rfl rfl rfl rfl ?_
      refine xo (q_pick_f rfl rfl rfl) rfl ?_
      refine xs rfl rfl ?_
      refine nl ?_
      (repeat first | refine et ?_ | refine eb ?_)
      (repeat refine sq ?_)
      refine ev_ret ?_
      (repeat first | refine evr_then ?_ | refine evr_blk ?_)
      refine ret_pure' ttOk rfl rfl ?_
      refine congrArg bR (?_ : _ = _)
      simp_all [eqHd]
  · refine gn h1 rfl rfl rfl ?_
    refine gn h1 rfl rfl rfl ?_
    refine gn h1 rfl rfl rfl ?_
    refine gn h1 rfl rfl rfl ?_
    refine gn h1 rfl rfl rfl ?_
    refine xo (q_pick_f rfl h1 rfl) rfl ?_
    refine xm rfl rfl ?_
    refine gn rfl rfl rfl rfl ?_
    refine gn rfl rfl rfl rfl ?_
    refine gn rfl rfl rfl rfl ?_
    refine gn rfl rfl rfl rfl ?_
    refine gn rfl rfl rfl rfl ?_
    refine xo (q_pick_f rfl rfl rfl) rfl ?_
    refine xm rfl rfl ?_
    refine gn rfl rfl rfl rfl ?_
    refine gn rfl rfl rfl rfl ?_
    refine gn rfl rfl rfl rfl ?_
    refine gn rfl rfl rfl rfl ?_
    refine gn rfl rfl rfl rfl ?_
    refine xo (q_pick_f rfl rfl rfl) rfl ?_
    refine xs rfl rfl ?_
    refine nl ?_
    (repeat first | refine et ?_ | refine eb ?_)
    (repeat refine sq ?_)
    refine ev_ret ?_
    (repeat first | refine evr_then ?_ | refine evr_blk ?_)
    refine ret_pure' ttOk rfl rfl ?_
    refine congrArg bR (?_ : _ = _)
    simp_all [eqHd]
theorem c_sameWrite (x y : Int × List Int) : Pure Try.prog 60 [many [iC x.1, ints x.2], many [iC y.1, ints y.2]] (bR (wEq x y)) := by
  refine pure_intro (N := 17) Try.func60 rfl rfl rfl rfl (fun H w => ?_)
  (repeat refine sq ?_)
  refine rg ?_
  refine evl_e (e_box rfl rfl rfl rfl) ?_
  refine evl_e (e_box rfl rfl rfl rfl) ?_
  refine xs rfl rfl ?_
  refine nl ?_
  (repeat first | refine et ?_ | refine eb ?_)
  (repeat refine sq ?_)
  refine rg ?_
  refine xf ttOk rfl rfl ?_
  refine xl ttOk rfl rfl ?_
  refine xf ttOk rfl rfl ?_
  refine xl ttOk rfl rfl ?_
  refine xb ttOk rfl rfl ?_
  refine xm rfl rfl ?_
  refine evl_part rfl rfl (fun h1 => ?_) (fun h1 => ?_)
  · refine go h1 rfl rfl (q_fieldAddr ttOk rfl) rfl ?_
    refine go h1 rfl rfl (q_load ttOk rfl) rfl ?_
    refine go h1 rfl rfl (q_fieldAddr ttOk rfl) rfl ?_
    refine go h1 rfl rfl (q_load ttOk rfl) rfl ?_
    refine evl_callg rfl rfl h1 (nm := 15) (cf rfl) (c_SameRow' _ _) (rs_of rfl) rfl rfl rfl ?_
    refine xo (q_pick_t rfl h1 rfl) rfl ?_
    refine xs rfl rfl ?_
    refine nl ?_
    (repeat first | refine et ?_ | refine eb ?_)
    (repeat refine sq ?_)
    refine ev_ret ?_
    (repeat first | refine evr_then ?_ | refine evr_blk ?_)
    refine ret_pure' ttOk rfl rfl ?_
    refine congrArg bR (?_ : _ = _)
    simp_all [wEq]
  · refine gn h1 rfl rfl rfl ?_
    refine gn h1 rfl rfl rfl ?_
    refine gn h1 rfl rfl rfl ?_
    refine gn h1 rfl rfl rfl ?_
    refine gn h1 rfl rfl rfl ?_
    refine xo (q_pick_f rfl h1 rfl) rfl ?_
    refine xs rfl rfl ?_
    refine nl ?_
    (repeat first | refine et ?_ | refine eb ?_)
    (repeat refine sq ?_)
    refine ev_ret ?_
    (repeat first | refine evr_then ?_ | refine evr_blk ?_)
    refine ret_pure' ttOk rfl rfl ?_
    refine congrArg bR (?_ : _ = _)
    simp_all [wEq]
theorem c_eqRowsF (l m : List (List Int)) : Pure Try.prog 57 [one (rows l), one (rows m), one (.v (.func (.func 58) #[] #[]))] (bR (eqX l m)) := by
  refine pure_intro (N := 32) Try.func57 rfl rfl rfl rfl (fun H w => ?_)
  refine ev_lenm (t := 0) rfl (fun hL => ?_)
  refine ev_lenm (t := 1) rfl (fun hM => ?_)
  (repeat refine sq ?_)
  refine rg ?_
  refine xs rfl rfl ?_
  refine nl ?_
  (repeat first | refine et ?_ | refine eb ?_)
  (repeat refine sq ?_)
  refine rg ?_
  refine xm rfl rfl ?_
  refine xo (q_len_map ttOk rfl rfl) rfl ?_
  refine xm rfl rfl ?_
  refine xo (q_len_map ttOk rfl rfl) rfl ?_
  refine xb ttOk rfl rfl ?_
  refine nl ?_
  (repeat first | refine et ?_ | refine eb ?_)
  (repeat refine sq ?_)
  refine ev_cond rfl (fun h1 => ?_) (fun h1 => ?_)
  · have d1 := of_decide_eq_true h1
    (repeat refine sq ?_)
    refine rg ?_
    refine xs rfl rfl ?_
    refine nl ?_
    (repeat first | refine et ?_ | refine eb ?_)
    (repeat refine sq ?_)
    refine ev_ret ?_
    (repeat first | refine evr_then ?_ | refine evr_blk ?_)
    refine ret_pure' ttOk rfl rfl ?_
    refine congrArg bR (?_ : _ = _)
    rw [eqX_len d1]
  · have d1 := of_decide_eq_false h1
    have hlen : l.length = m.length := by omega
    (repeat refine sq ?_)
    refine ev_skip ?_
    (repeat first | refine et ?_ | refine eb ?_)
    (repeat refine sq ?_)
    refine rg ?_
    refine xm rfl rfl ?_
    refine xo (q_len_map ttOk rfl rfl) rfl ?_
    refine xm rfl rfl ?_
    refine nl ?_
    (repeat first | refine et ?_ | refine eb ?_)
    (repeat refine sq ?_)
    refine ev_blk ?_
    (repeat refine sq ?_)
    refine ev_loop (fun k : Nat => (⟨[(17, iV k), (16, iV l.length), (15, cV (rows l)), (1, cV (rows m)), (2, cV (.v (.func (.func 58) #[] #[])))], [], [], []⟩ : St)) (fun k => k ≤ l.length ∧ l.take k = m.take k) (fun k => l.length - k) 0 [] (⟨by simp, by simp⟩) ⟨by (repeat first | exact trivial | refine ⟨rfl, ?_⟩), by (repeat first | exact trivial | refine ⟨rfl, ?_⟩), by (repeat first | exact trivial | refine ⟨⟨_, rfl, rfl⟩, ?_⟩), by (repeat first | exact trivial | refine ⟨⟨_, rfl, rfl⟩, ?_⟩), rfl⟩ ?_
    intro k hp
    obtain ⟨p0, p1⟩ := hp
    show Ev _ _ _ _ (⟨[(17, iV k), (16, iV l.length), (15, cV (rows l)), (1, cV (rows m)), (2, cV (.v (.func (.func 58) #[] #[])))], [], [], []⟩ : St)
    (repeat refine sq ?_)
    refine rg ?_
    refine xb ttOk rfl rfl ?_
    refine nl ?_
    (repeat first | refine et ?_ | refine eb ?_)
    (repeat refine sq ?_)
    refine ev_cond rfl (fun h2 => ?_) (fun h2 => ?_)
    · have d2 := of_decide_eq_true h2
      (repeat refine sq ?_)
      refine ev_skip ?_
      (repeat first | refine et ?_ | refine eb ?_)
      (repeat refine sq ?_)
      refine ev_blk ?_
      (repeat refine sq ?_)
      refine rg ?_
      refine xm rfl rfl ?_
      refine xo (q_ix_map ttOk rfl rfl rfl rfl (by omega)) rfl ?_
      refine xl ttOk rfl rfl ?_
      refine xs rfl rfl ?_
      refine xs rfl rfl ?_
      refine nl ?_
      (repeat first | refine et ?_ | refine eb ?_)
      (repeat refine sq ?_)
      refine rg ?_
      refine xm rfl rfl ?_
      refine xm rfl rfl ?_
      refine xo (q_ix_map ttOk rfl rfl rfl rfl (by omega)) rfl ?_
      refine xl ttOk rfl rfl ?_
      refine xs rfl rfl ?_
      refine nl ?_
      (repeat first | refine et ?_ | refine eb ?_)
      (repeat refine sq ?_)
      refine rg ?_
      refine xm rfl rfl ?_
      refine xm rfl rfl ?_
      refine xm rfl rfl ?_
      refine evl_callt (nm := 29) rfl (cf rfl) (c_SameRow' _ _) (rs_of rfl) rfl rfl rfl ?_
      refine xo (q_not rfl) rfl ?_
      refine nl ?_
      (repeat first | refine et ?_ | refine eb ?_)
      (repeat refine sq ?_)
      refine ev_cond_n rfl (fun h3 => ?_) (fun h3 => ?_)
      · (repeat refine sq ?_)
        refine rg ?_
        refine xs rfl rfl ?_
        refine nl ?_
        (repeat first | refine et ?_ | refine eb ?_)
        (repeat refine sq ?_)
        refine ev_ret ?_
        (repeat first | refine evr_then ?_ | refine evr_blk ?_)
        refine ret_pure' ttOk rfl rfl ?_
        refine congrArg bR (?_ : _ = _)
        rw [eqX_at (k := k) (by omega) (by omega) (eqL_no h3)]
      · (repeat refine sq ?_)
        refine ev_skip ?_
        (repeat first | refine et ?_ | refine eb ?_)
        (repeat refine sq ?_)
        refine rg ?_
        refine xa rfl rfl rfl (by omega) rfl ?_
        refine xm rfl rfl ?_
        refine nl ?_
        (repeat first | refine et ?_ | refine eb ?_)
        (repeat first | refine et ?_ | refine eb ?_)
        refine eve_round (k + 1) [] ?hp ⟨by (repeat first | exact trivial | refine ⟨rfl, ?_⟩), by (repeat first | exact trivial | refine ⟨rfl, ?_⟩), by (repeat first | exact trivial | refine ⟨⟨_, rfl, rfl⟩, ?_⟩), by (repeat first | exact trivial | refine ⟨⟨_, rfl, rfl⟩, ?_⟩), rfl⟩
        case hp => exact ⟨⟨by omega, take_eq (by omega) (by omega) p1 (eqL_yes h3)⟩, by omega⟩
    · have d2 := of_decide_eq_false h2
      (repeat refine sq ?_)
      refine ev_exit ?_
      (repeat first | refine evx_then ?_ | refine evx_hit ?_ | refine evx_miss rfl ?_)
      (repeat first | refine et ?_ | refine eb ?_)
      (repeat refine sq ?_)
      refine rg ?_
      refine xs rfl rfl ?_
      refine nl ?_
      (repeat first | refine et ?_ | refine eb ?_)
      (repeat refine sq ?_)
      refine ev_ret ?_
      (repeat first | refine evr_then ?_ | refine evr_blk ?_)
      refine ret_pure' ttOk rfl rfl ?_
      refine congrArg bR (?_ : _ = _)
      exact (eqX_all (by omega) hlen p1).symm
theorem c_eqWritesF (l m : List (Int × List Int)) : Pure Try.prog 59 [one (writes l), one (writes m), one (.v (.func (.func 60) #[] #[]))] (bR (eqX l m)) := by
  refine pure_intro (N := 32) Try.func59 rfl rfl rfl rfl (fun H w => ?_)
  refine ev_lenm (t := 0) rfl (fun hL => ?_)
  refine ev_lenm (t := 1) rfl (fun hM => ?_)
  (repeat refine sq ?_)
  refine rg ?_
  refine xs rfl rfl ?_
  refine nl ?_
  (repeat first | refine et ?_ | refine eb ?_)
  (repeat refine sq ?_)
  refine rg ?_
  refine xm rfl rfl ?_
  refine xo (q_len_map ttOk rfl rfl) rfl ?_
  refine xm rfl rfl ?_
  refine xo (q_len_map ttOk rfl rfl) rfl ?_
  refine xb ttOk rfl rfl ?_
  refine nl ?_
  (repeat first | refine et ?_ | refine eb ?_)
  (repeat refine sq ?_)
  refine ev_cond rfl (fun h1 => ?_) (fun h1 => ?_)
  · have d1 := of_decide_eq_true h1
    (repeat refine sq ?_)
    refine rg ?_
    refine xs rfl rfl ?_
    refine nl ?_
    (repeat first | refine et ?_ | refine eb ?_)
    (repeat refine sq ?_)
    refine ev_ret ?_
    (repeat first | refine evr_then ?_ | refine evr_blk ?_)
    refine ret_pure' ttOk rfl rfl ?_
    refine congrArg bR (?_ : _ = _)
    rw [eqX_len d1]
  · have d1 := of_decide_eq_false h1
    have hlen : l.length = m.length := by omega
    (repeat refine sq ?_)
    refine ev_skip ?_
    (repeat first | refine et ?_ | refine eb ?_)
    (repeat refine sq ?_)
    refine rg ?_
    refine xm rfl rfl ?_
    refine xo (q_len_map ttOk rfl rfl) rfl ?_
    refine xm rfl rfl ?_
    refine nl ?_
    (repeat first | refine et ?_ | refine eb ?_)
    (repeat refine sq ?_)
    refine ev_blk ?_
    (repeat refine sq ?_)
    refine ev_loop (fun k : Nat => (⟨[(17, iV k), (16, iV l.length), (15, cV (writes l)), (1, cV (writes m)), (2, cV (.v (.func (.func 60) #[] #[])))], [], [], []⟩ : St)) (fun k => k ≤ l.length ∧ l.take k = m.take k) (fun k => l.length - k) 0 [] (⟨by simp, by simp⟩) ⟨by (repeat first | exact trivial | refine ⟨rfl, ?_⟩), by (repeat first | exact trivial | refine ⟨rfl, ?_⟩), by (repeat first | exact trivial | refine ⟨⟨_, rfl, rfl⟩, ?_⟩), by (repeat first | exact trivial | refine ⟨⟨_, rfl, rfl⟩, ?_⟩), rfl⟩ ?_
    intro k hp
    obtain ⟨p0, p1⟩ := hp
    show Ev _ _ _ _ (⟨[(17, iV k), (16, iV l.length), (15, cV (writes l)), (1, cV (writes m)), (2, cV (.v (.func (.func 60) #[] #[])))], [], [], []⟩ : St)
    (repeat refine sq ?_)
    refine rg ?_
    refine xb ttOk rfl rfl ?_
    refine nl ?_
    (repeat first | refine et ?_ | refine eb ?_)
    (repeat refine sq ?_)
    refine ev_cond rfl (fun h2 => ?_) (fun h2 => ?_)
    · have d2 := of_decide_eq_true h2
      (repeat refine sq ?_)
      refine ev_skip ?_
      (repeat first | refine et ?_ | refine eb ?_)
      (repeat refine sq ?_)
      refine ev_blk ?_
      (repeat refine sq ?_)
      refine rg ?_
      refine xm rfl rfl ?_
      refine xo (q_ix_map ttOk rfl rfl rfl rfl (by omega)) rfl ?_
      refine xl ttOk rfl rfl ?_
      refine evl_e (e_alloc ttOk rfl rfl rfl rfl) ?_
      refine xs rfl rfl ?_
      refine xst ttOk rfl ?_ rfl
      refine nl ?_
      (repeat first | refine et ?_ | refine eb ?_)
      (repeat refine sq ?_)
      refine rg ?_
      refine xm rfl rfl ?_
      refine xm rfl rfl ?_
      refine xo (q_ix_map ttOk rfl rfl rfl rfl (by omega)) rfl ?_
      refine xl ttOk rfl rfl ?_
      refine evl_e (e_alloc ttOk rfl rfl rfl rfl) ?_
      refine xst ttOk rfl ?_ rfl
      refine nl ?_
      (repeat first | refine et ?_ | refine eb ?_)
      (repeat refine sq ?_)
      refine rg ?_
      refine xm rfl rfl ?_
      refine xl ttOk rfl rfl ?_
      refine xl ttOk rfl rfl ?_
      refine evl_callt (nm := 29) rfl (cf rfl) (c_sameWrite (l[k]'(by omega)) (m[k]'(by omega))) (rs_of rfl) rfl rfl rfl ?_
      refine xo (q_not rfl) rfl ?_
      refine nl ?_
      (repeat first | refine et ?_ | refine eb ?_)
      (repeat refine sq ?_)
      refine ev_cond_n rfl (fun h3 => ?_) (fun h3 => ?_)
      · (repeat refine sq ?_)
        refine rg ?_
        refine xs rfl rfl ?_
        refine nl ?_
        (repeat first | refine et ?_ | refine eb ?_)
        (repeat refine sq ?_)
        refine ev_ret ?_
        (repeat first | refine evr_then ?_ | refine evr_blk ?_)
        refine ret_pure' ttOk rfl rfl ?_
        refine congrArg bR (?_ : _ = _)
        rw [eqX_at (k := k) (by omega) (by omega) (wEq_no h3)]
      · (repeat refine sq ?_)
        refine ev_skip ?_
        (repeat first | refine et ?_ | refine eb ?_)
        (repeat refine sq ?_)
        refine rg ?_
        refine xa rfl rfl rfl (by omega) rfl ?_
        refine xm rfl rfl ?_
        refine nl ?_
        (repeat first | refine et ?_ | refine eb ?_)
        (repeat first | refine et ?_ | refine eb ?_)
        refine eve_round (k + 1) [] ?hp ⟨by (repeat first | exact trivial | refine ⟨rfl, ?_⟩), by (repeat first | exact trivial | refine ⟨rfl, ?_⟩), by (repeat first | exact trivial | refine ⟨⟨_, rfl, rfl⟩, ?_⟩), by (repeat first | exact trivial | refine ⟨⟨_, rfl, rfl⟩, ?_⟩), rfl⟩
        case hp => exact ⟨⟨by omega, take_eq (by omega) (by omega) p1 (wEq_yes h3)⟩, by omega⟩
    · have d2 := of_decide_eq_false h2
      (repeat refine sq ?_)
      refine ev_exit ?_
      (repeat first | refine evx_then ?_ | refine evx_hit ?_ | refine evx_miss rfl ?_)
      (repeat first | refine et ?_ | refine eb ?_)
      (repeat refine sq ?_)
      refine rg ?_
      refine xs rfl rfl ?_
      refine nl ?_
      (repeat first | refine et ?_ | refine eb ?_)
      (repeat refine sq ?_)
      refine ev_ret ?_
      (repeat first | refine evr_then ?_ | refine evr_blk ?_)
      refine ret_pure' ttOk rfl rfl ?_
      refine congrArg bR (?_ : _ = _)
      exact (eqX_all (by omega) hlen p1).symm
theorem c_sameDisk (d e : Disk) : Pure Try.prog 31 [many (diskC d), many (diskC e)] (bR (eqD d e)) := by
  refine pure_intro (N := 17) Try.func31 rfl rfl rfl rfl (fun H w => ?_)
  (repeat refine sq ?_)
  refine rg ?_
  refine evl_e (e_box rfl rfl rfl rfl) ?_
  refine evl_e (e_box rfl rfl rfl rfl) ?_
  refine xs rfl rfl ?_
  refine nl ?_
  (repeat first | refine et ?_ | refine eb ?_)
  (repeat refine sq ?_)
  refine rg ?_
  refine xf ttOk rfl rfl ?_
  refine xl ttOk rfl rfl ?_
  refine xf ttOk rfl rfl ?_
  refine xl ttOk rfl rfl ?_
  refine evl_call (nm := 9) (cf rfl) (c_eqRowsF _ _) (rs_of rfl) rfl rfl rfl ?_
  refine xm rfl rfl ?_
  refine evl_part rfl rfl (fun h1 => ?_) (fun h1 => ?_)
  · refine go h1 rfl rfl (q_fieldAddr ttOk rfl) rfl ?_
    refine go h1 rfl rfl (q_load ttOk rfl) rfl ?_
    refine go h1 rfl rfl (q_fieldAddr ttOk rfl) rfl ?_
    refine go h1 rfl rfl (q_load ttOk rfl) rfl ?_
    refine evl_callg rfl rfl h1 (nm := 15) (cf rfl) (c_eqWritesF _ _) (rs_of rfl) rfl rfl rfl ?_
    refine xo (q_pick_t rfl h1 rfl) rfl ?_
    refine xs rfl rfl ?_
    refine nl ?_
    (repeat first | refine et ?_ | refine eb ?_)
    (repeat refine sq ?_)
    refine ev_ret ?_
    (repeat first | refine evr_then ?_ | refine evr_blk ?_)
    refine ret_pure' ttOk rfl rfl ?_
    refine congrArg bR (?_ : _ = _)
    simp_all [eqD]
  · refine gn h1 rfl rfl rfl ?_
    refine gn h1 rfl rfl rfl ?_
    refine gn h1 rfl rfl rfl ?_
    refine gn h1 rfl rfl rfl ?_
    refine gn h1 rfl rfl rfl ?_
    refine xo (q_pick_f rfl h1 rfl) rfl ?_
    refine xs rfl rfl ?_
    refine nl ?_
    (repeat first | refine et ?_ | refine eb ?_)
    (repeat refine sq ?_)
    refine ev_ret ?_
    (repeat first | refine evr_then ?_ | refine evr_blk ?_)
    refine ret_pure' ttOk rfl rfl ?_
    refine congrArg bR (?_ : _ = _)
    simp_all [eqD]
theorem c_l12SameDisk (d e : Disk) : Pure Try.prog 23 [many (diskC d), many (diskC e)] (bR (eqD d e)) := by
  refine pure_intro (N := 78) Try.func23 rfl rfl rfl rfl (fun H w => ?_)
  refine ev_lena 0 (t := 0) rfl rfl (fun hL1 => ?_)
  refine ev_lena 1 (t := 0) rfl rfl (fun hL2 => ?_)
  (repeat refine sq ?_)
  refine rg ?_
  refine evl_e (e_box rfl rfl rfl rfl) ?_
  refine evl_e (e_box rfl rfl rfl rfl) ?_
  refine xs rfl rfl ?_
  refine nl ?_
  (repeat first | refine et ?_ | refine eb ?_)
  (repeat refine sq ?_)
  refine rg ?_
  refine xf ttOk rfl rfl ?_
  refine xl ttOk rfl rfl ?_
  refine xo (q_len_map ttOk rfl rfl) rfl ?_
  refine xf ttOk rfl rfl ?_
  refine xl ttOk rfl rfl ?_
  refine xo (q_len_map ttOk rfl rfl) rfl ?_
  refine xb ttOk rfl rfl ?_
  refine xm rfl rfl ?_
  refine evl_part rfl rfl (fun h1 => ?_) (fun h1 => ?_)
  · try have d1 := of_decide_eq_true h1
    refine gn h1 rfl rfl rfl ?_
    refine gn h1 rfl rfl rfl ?_
    refine gn h1 rfl rfl rfl ?_
    refine gn h1 rfl rfl rfl ?_
    refine gn h1 rfl rfl rfl ?_
    refine gn h1 rfl rfl rfl ?_
    refine gn h1 rfl rfl rfl ?_
    refine xo (q_pick_t rfl h1 rfl) rfl ?_
    refine nl ?_
    (repeat first | refine et ?_ | refine eb ?_)
    (repeat refine sq ?_)
    refine ev_cond_kt rfl rfl ?_
    (repeat refine sq ?_)
    refine rg ?_
    refine xs rfl rfl ?_
    refine nl ?_
    (repeat first | refine et ?_ | refine eb ?_)
    (repeat refine sq ?_)
    refine ev_ret ?_
    (repeat first | refine evr_then ?_ | refine evr_blk ?_)
    refine ret_pure' ttOk rfl rfl ?_
    refine congrArg bR (?_ : _ = _)
    first
    | (simp only [eqD]; rw [eqX_len (l := d.kept) (by omega)]; rfl)
    | (simp only [eqD]; rw [eqX_len (l := d.wait) (by omega), Bool.and_false])
    | (simp only [eqD]; rw [eqX_at (l := d.kept) (k := k) (by omega) (by omega) (eqL_no (by assumption))]; rfl)
    | (simp only [eqD]; rw [eqX_at (l := d.wait) (k := j) (by omega) (by omega) (at_no (by omega)), Bool.and_false])
    | (simp only [eqD]; rw [eqX_at (l := d.wait) (k := j) (by omega) (by omega) (at_no2 (by assumption)), Bool.and_false])
    | (simp only [eqD]; rw [eqX_all (l := d.kept) (by omega) (by omega) p1, eqX_all (l := d.wait) (by omega) (by omega) q1]; rfl)
  · try have d1 := of_decide_eq_false h1
    refine go h1 rfl rfl (q_fieldAddr ttOk rfl) rfl ?_
    refine go h1 rfl rfl (q_load ttOk rfl) rfl ?_
    refine go h1 rfl rfl (q_len_map ttOk rfl rfl) rfl ?_
    refine go h1 rfl rfl (q_fieldAddr ttOk rfl) rfl ?_
    refine go h1 rfl rfl (q_load ttOk rfl) rfl ?_
    refine go h1 rfl rfl (q_len_map ttOk rfl rfl) rfl ?_
    refine go h1 rfl rfl (q_bin ttOk rfl) rfl ?_
    refine xo (q_pick_f rfl h1 rfl) rfl ?_
    refine nl ?_
    (repeat first | refine et ?_ | refine eb ?_)
    (repeat refine sq ?_)
    refine ev_cond rfl (fun h2 => ?_) (fun h2 => ?_)
    · try have d2 := of_decide_eq_true h2
      (repeat refine sq ?_)
      refine rg ?_
      refine xs rfl rfl ?_
      refine nl ?_
      (repeat first | refine et ?_ | refine eb ?_)
      (repeat refine sq ?_)
      refine ev_ret ?_
      (repeat first | refine evr_then ?_ | refine evr_blk ?_)
      refine ret_pure' ttOk rfl rfl ?_
      refine congrArg bR (?_ : _ = _)
      first
      | (simp only [eqD]; rw [eqX_len (l := d.kept) (by omega)]; rfl)
      | (simp only [eqD]; rw [eqX_len (l := d.wait) (by omega), Bool.and_false])
      | (simp only [eqD]; rw [eqX_at (l := d.kept) (k := k) (by omega) (by omega) (eqL_no (by assumption))]; rfl)
      | (simp only [eqD]; rw [eqX_at (l := d.wait) (k := j) (by omega) (by omega) (at_no (by omega)), Bool.and_false])
      | (simp only [eqD]; rw [eqX_at (l := d.wait) (k := j) (by omega) (by omega) (at_no2 (by assumption)), Bool.and_false])
      | (simp only [eqD]; rw [eqX_all (l := d.kept) (by omega) (by omega) p1, eqX_all (l := d.wait) (by omega) (by omega) q1]; rfl)
    · try have d2 := of_decide_eq_false h2
      (repeat refine sq ?_)
      refine ev_skip ?_
      (repeat first | refine et ?_ | refine eb ?_)
      (repeat refine sq ?_)
      refine rg ?_
      refine xs rfl rfl ?_
      refine nl ?_
      (repeat first | refine et ?_ | refine eb ?_)
      (repeat refine sq ?_)
      refine ev_blk ?_
      (repeat refine sq ?_)
      refine ev_loop (fun k : Nat => (⟨[(5, iV k), (2, pbV 2 0), (3, pbV 3 0)], [(3, 41, [.c (rows e.kept), .c (writes e.wait)]), (2, 41, [.c (rows d.kept), .c (writes d.wait)])], [], []⟩ : St)) (fun k => k ≤ d.kept.length ∧ d.kept.take k = e.kept.take k) (fun k => d.kept.length - k) 0 [] (⟨by simp, by simp⟩) ⟨by (repeat first | exact trivial | refine ⟨rfl, ?_⟩), by (repeat first | exact trivial | refine ⟨rfl, ?_⟩), by (repeat first | exact trivial | refine ⟨⟨_, rfl, rfl⟩, ?_⟩), by (repeat first | exact trivial | refine ⟨⟨_, rfl, rfl⟩, ?_⟩), rfl⟩ ?_
      intro k hp
      obtain ⟨p0, p1⟩ := hp
      show Ev _ _ _ _ (⟨[(5, iV k), (2, pbV 2 0), (3, pbV 3 0)], [(3, 41, [.c (rows e.kept), .c (writes e.wait)]), (2, 41, [.c (rows d.kept), .c (writes d.wait)])], [], []⟩ : St)
      (repeat refine sq ?_)
      refine rg ?_
      refine xm rfl rfl ?_
      refine xf ttOk rfl rfl ?_
      refine xl ttOk rfl rfl ?_
      refine xo (q_len_map ttOk rfl rfl) rfl ?_
      refine xb ttOk rfl rfl ?_
      refine nl ?_
      (repeat first | refine et ?_ | refine eb ?_)
      (repeat refine sq ?_)
      refine ev_cond rfl (fun h3 => ?_) (fun h3 => ?_)
      · try have d3 := of_decide_eq_true h3
        (repeat refine sq ?_)
        refine ev_skip ?_
        (repeat first | refine et ?_ | refine eb ?_)
        (repeat refine sq ?_)
        refine ev_blk ?_
        (repeat refine sq ?_)
        refine ev_drawq [] mo ?_
        refine rdk_take 0 rfl (by kernel_rfl) trivial (q_fieldAddr ttOk rfl) rfl ?_
        refine rdk_take 1 rfl (by kernel_rfl) trivial (q_load ttOk rfl) rfl ?_
        refine rdk_take 2 rfl (by kernel_rfl) trivial (q_move rfl) rfl ?_
        refine rdk_take 3 rfl (by kernel_rfl) trivial (q_ix_map ttOk rfl rfl rfl rfl (by omega)) rfl ?_
        refine rdk_take 4 rfl (by kernel_rfl) trivial (q_load ttOk rfl) rfl ?_
        refine rdk_take 5 rfl (by kernel_rfl) trivial (q_fieldAddr ttOk rfl) rfl ?_
        refine rdk_take 6 rfl (by kernel_rfl) trivial (q_load ttOk rfl) rfl ?_
        refine rdk_take 7 rfl (by kernel_rfl) trivial (q_move rfl) rfl ?_
        refine rdk_take 8 rfl (by kernel_rfl) trivial (q_ix_map ttOk rfl rfl rfl rfl (by omega)) rfl ?_
        refine rdk_take 9 rfl (by kernel_rfl) trivial (q_load ttOk rfl) rfl ?_
        refine rdk_one 10 (by kernel_rfl) ?_
        refine rdo_call (nm := 40) rfl trivial (cf rfl) (c_SameRow _ _) (rs_of rfl) rfl rfl rfl ?_
        refine rdk_take 11 rfl (by kernel_rfl) trivial (q_not rfl) rfl ?_
        refine rdk_endq (by kernel_rfl) ?_
        (repeat first | refine et ?_ | refine eb ?_)
        (repeat refine sq ?_)
        refine ev_cond_n rfl (fun h4 => ?_) (fun h4 => ?_)
        · try have d4 := of_decide_eq_false h4
          (repeat refine sq ?_)
          refine rg ?_
          refine xs rfl rfl ?_
          refine nl ?_
          (repeat first | refine et ?_ | refine eb ?_)
          (repeat refine sq ?_)
          refine ev_ret ?_
          (repeat first | refine evr_then ?_ | refine evr_blk ?_)
          refine ret_pure' ttOk rfl rfl ?_
          refine congrArg bR (?_ : _ = _)
          first
          | (simp only [eqD]; rw [eqX_len (l := d.kept) (by omega)]; rfl)
          | (simp only [eqD]; rw [eqX_len (l := d.wait) (by omega), Bool.and_false])
          | (simp only [eqD]; rw [eqX_at (l := d.kept) (k := k) (by omega) (by omega) (eqL_no (by assumption))]; rfl)
          | (simp only [eqD]; rw [eqX_at (l := d.wait) (k := j) (by omega) (by omega) (at_no (by omega)), Bool.and_false])
          | (simp only [eqD]; rw [eqX_at (l := d.wait) (k := j) (by omega) (by omega) (at_no2 (by assumption)), Bool.and_false])
          | (simp only [eqD]; rw [eqX_all (l := d.kept) (by omega) (by omega) p1, eqX_all (l := d.wait) (by omega) (by omega) q1]; rfl)
        · try have d4 := of_decide_eq_true h4
          (repeat refine sq ?_)
          refine ev_skip ?_
          (repeat first | refine et ?_ | refine eb ?_)
          (repeat refine sq ?_)
          refine rg ?_
          refine xm rfl rfl ?_
          refine xa rfl rfl rfl (by omega) rfl ?_
          refine xs rfl rfl ?_
          refine nl ?_
          (repeat first | refine et ?_ | refine eb ?_)
          (repeat first | refine et ?_ | refine eb ?_)
          refine eve_round (k + 1) [] ?hp ⟨by (repeat first | exact trivial | refine ⟨rfl, ?_⟩), by (repeat first | exact trivial | refine ⟨rfl, ?_⟩), by (repeat first | exact trivial | refine ⟨⟨_, rfl, rfl⟩, ?_⟩), by (repeat first | exact trivial | refine ⟨⟨_, rfl, rfl⟩, ?_⟩), rfl⟩
          case hp => exact ⟨⟨by omega, take_eq (by omega) (by omega) p1 (eqL_yes h4)⟩, by omega⟩
      · try have d3 := of_decide_eq_false h3
        (repeat refine sq ?_)
        refine ev_exit ?_
        (repeat first | refine evx_then ?_ | refine evx_hit ?_ | refine evx_miss rfl ?_)
        (repeat first | refine et ?_ | refine eb ?_)
        (repeat refine sq ?_)
        refine rg ?_
        refine xs rfl rfl ?_
        refine nl ?_
        (repeat first | refine et ?_ | refine eb ?_)
        (repeat refine sq ?_)
        refine ev_blk ?_
        (repeat refine sq ?_)
        refine ev_loop (fun j : Nat => (⟨[(6, iV j), (2, pbV 2 0), (3, pbV 3 0)], [(3, 41, [.c (rows e.kept), .c (writes e.wait)]), (2, 41, [.c (rows d.kept), .c (writes d.wait)])], [], []⟩ : St)) (fun j => j ≤ d.wait.length ∧ d.wait.take j = e.wait.take j) (fun j => d.wait.length - j) 0 [] (⟨by simp, by simp⟩) ⟨by (repeat first | exact trivial | refine ⟨rfl, ?_⟩), by (repeat first | exact trivial | refine ⟨rfl, ?_⟩), by (repeat first | exact trivial | refine ⟨⟨_, rfl, rfl⟩, ?_⟩), by (repeat first | exact trivial | refine ⟨⟨_, rfl, rfl⟩, ?_⟩), rfl⟩ ?_
        intro j hp
        obtain ⟨q0, q1⟩ := hp
        show Ev _ _ _ _ (⟨[(6, iV j), (2, pbV 2 0), (3, pbV 3 0)], [(3, 41, [.c (rows e.kept), .c (writes e.wait)]), (2, 41, [.c (rows d.kept), .c (writes d.wait)])], [], []⟩ : St)
        (repeat refine sq ?_)
        refine rg ?_
        refine xm rfl rfl ?_
        refine xf ttOk rfl rfl ?_
        refine xl ttOk rfl rfl ?_
        refine xo (q_len_map ttOk rfl rfl) rfl ?_
        refine xb ttOk rfl rfl ?_
        refine nl ?_
        (repeat first | refine et ?_ | refine eb ?_)
        (repeat refine sq ?_)
        refine ev_cond rfl (fun h5 => ?_) (fun h5 => ?_)
        · try have d5 := of_decide_eq_true h5
          (repeat refine sq ?_)
          refine ev_skip ?_
          (repeat first | refine et ?_ | refine eb ?_)
          (repeat refine sq ?_)
          refine ev_blk ?_
          (repeat refine sq ?_)
          refine ev_drawq [] mo ?_
          refine rdk_take 0 rfl (by kernel_rfl) trivial (q_fieldAddr ttOk rfl) rfl ?_
          refine rdk_take 1 rfl (by kernel_rfl) trivial (q_load ttOk rfl) rfl ?_
          refine rdk_take 2 rfl (by kernel_rfl) trivial (q_move rfl) rfl ?_
          refine rdk_take 3 rfl (by kernel_rfl) trivial (q_ix_map ttOk rfl rfl rfl rfl (by omega)) rfl ?_
          refine rdk_take 4 rfl (by kernel_rfl) trivial (q_fieldAddr ttOk rfl) rfl ?_
          refine rdk_take 5 rfl (by kernel_rfl) trivial (q_load ttOk rfl) rfl ?_
          refine rdk_take 6 rfl (by kernel_rfl) trivial (q_fieldAddr ttOk rfl) rfl ?_
          refine rdk_take 7 rfl (by kernel_rfl) trivial (q_load ttOk rfl) rfl ?_
          refine rdk_take 8 rfl (by kernel_rfl) trivial (q_move rfl) rfl ?_
          refine rdk_take 9 rfl (by kernel_rfl) trivial (q_ix_map ttOk rfl rfl rfl rfl (by omega)) rfl ?_
          refine rdk_take 10 rfl (by kernel_rfl) trivial (q_fieldAddr ttOk rfl) rfl ?_
          refine rdk_take 11 rfl (by kernel_rfl) trivial (q_load ttOk rfl) rfl ?_
          refine rdk_take 12 rfl (by kernel_rfl) trivial (q_bin ttOk rfl) rfl ?_
          refine rdk_take 13 rfl (by kernel_rfl) trivial (q_move rfl) rfl ?_
          refine rdk_part (t := 62) rfl (fun h6 => ?_) (fun h6 => ?_)
          · try have d6 := of_decide_eq_true h6
            refine rdk_skip 14 rfl (by kernel_rfl) ⟨_, rfl, .inl ⟨_, rfl, h6⟩⟩ rfl ?_
            refine rdk_skip 15 rfl (by kernel_rfl) ⟨_, rfl, .inl ⟨_, rfl, h6⟩⟩ rfl ?_
            refine rdk_skip 16 rfl (by kernel_rfl) ⟨_, rfl, .inl ⟨_, rfl, h6⟩⟩ rfl ?_
            refine rdk_skip 17 rfl (by kernel_rfl) ⟨_, rfl, .inl ⟨_, rfl, h6⟩⟩ rfl ?_
            refine rdk_skip 18 rfl (by kernel_rfl) ⟨_, rfl, .inl ⟨_, rfl, h6⟩⟩ rfl ?_
            refine rdk_skip 19 rfl (by kernel_rfl) ⟨_, rfl, .inl ⟨_, rfl, h6⟩⟩ rfl ?_
            refine rdk_skip 20 rfl (by kernel_rfl) ⟨_, rfl, .inl ⟨_, rfl, h6⟩⟩ rfl ?_
            refine rdk_skip 21 rfl (by kernel_rfl) ⟨_, rfl, .inl ⟨_, rfl, h6⟩⟩ rfl ?_
            refine rdk_skip 22 rfl (by kernel_rfl) ⟨_, rfl, .inl ⟨_, rfl, h6⟩⟩ rfl ?_
            refine rdk_skip 23 rfl (by kernel_rfl) ⟨_, rfl, .inl ⟨_, rfl, h6⟩⟩ rfl ?_
            refine rdk_skip 24 rfl (by kernel_rfl) ⟨_, rfl, .inl ⟨_, rfl, h6⟩⟩ rfl ?_
            refine rdk_skip 25 rfl (by kernel_rfl) ⟨_, rfl, .inl ⟨_, rfl, h6⟩⟩ rfl ?_
            refine rdk_skip 26 rfl (by kernel_rfl) ⟨_, rfl, .inl ⟨_, rfl, h6⟩⟩ rfl ?_
            refine rdk_skip 27 rfl (by kernel_rfl) ⟨_, rfl, .inl ⟨_, rfl, h6⟩⟩ rfl ?_
            refine rdk_take 28 rfl (by kernel_rfl) trivial (q_pick_t rfl h6 rfl) rfl ?_
            refine rdk_endq (by kernel_rfl) ?_
            (repeat first | refine et ?_ | refine eb ?_)
            (repeat refine sq ?_)
            refine ev_cond_kt rfl rfl ?_
            (repeat refine sq ?_)
            refine rg ?_
            refine xs rfl rfl ?_
            refine nl ?_
            (repeat first | refine et ?_ | refine eb ?_)
            (repeat refine sq ?_)
            refine ev_ret ?_
            (repeat first | refine evr_then ?_ | refine evr_blk ?_)
            refine ret_pure' ttOk rfl rfl ?_
            refine congrArg bR (?_ : _ = _)
            first
            | (simp only [eqD]; rw [eqX_len (l := d.kept) (by omega)]; rfl)
            | (simp only [eqD]; rw [eqX_len (l := d.wait) (by omega), Bool.and_false])
            | (simp only [eqD]; rw [eqX_at (l := d.kept) (k := k) (by omega) (by omega) (eqL_no (by assumption))]; rfl)
            | (simp only [eqD]; rw [eqX_at (l := d.wait) (k := j) (by omega) (by omega) (at_no (by omega)), Bool.and_false])
            | (simp only [eqD]; rw [eqX_at (l := d.wait) (k := j) (by omega) (by omega) (at_no2 (by assumption)), Bool.and_false])
            | (simp only [eqD]; rw [eqX_all (l := d.kept) (by omega) (by omega) p1, eqX_all (l := d.wait) (by omega) (by omega) q1]; rfl)
          · try have d6 := of_decide_eq_false h6
            refine rdk_take 14 rfl (by kernel_rfl) ⟨_, _, rfl, rfl, h6⟩ (q_fieldAddr ttOk rfl) rfl ?_
            refine rdk_take 15 rfl (by kernel_rfl) ⟨_, _, rfl, rfl, h6⟩ (q_load ttOk rfl) rfl ?_
            refine rdk_take 16 rfl (by kernel_rfl) ⟨_, _, rfl, rfl, h6⟩ (q_move rfl) rfl ?_
            refine rdk_take 17 rfl (by kernel_rfl) ⟨_, _, rfl, rfl, h6⟩ (q_ix_map ttOk rfl rfl rfl rfl (by omega)) rfl ?_
            refine rdk_take 18 rfl (by kernel_rfl) ⟨_, _, rfl, rfl, h6⟩ (q_fieldAddr ttOk rfl) rfl ?_
            refine rdk_take 19 rfl (by kernel_rfl) ⟨_, _, rfl, rfl, h6⟩ (q_load ttOk rfl) rfl ?_
            refine rdk_take 20 rfl (by kernel_rfl) ⟨_, _, rfl, rfl, h6⟩ (q_fieldAddr ttOk rfl) rfl ?_
            refine rdk_take 21 rfl (by kernel_rfl) ⟨_, _, rfl, rfl, h6⟩ (q_load ttOk rfl) rfl ?_
            refine rdk_take 22 rfl (by kernel_rfl) ⟨_, _, rfl, rfl, h6⟩ (q_move rfl) rfl ?_
            refine rdk_take 23 rfl (by kernel_rfl) ⟨_, _, rfl, rfl, h6⟩ (q_ix_map ttOk rfl rfl rfl rfl (by omega)) rfl ?_
            refine rdk_take 24 rfl (by kernel_rfl) ⟨_, _, rfl, rfl, h6⟩ (q_fieldAddr ttOk rfl) rfl ?_
            refine rdk_take 25 rfl (by kernel_rfl) ⟨_, _, rfl, rfl, h6⟩ (q_load ttOk rfl) rfl ?_
            refine rdk_one 26 (by kernel_rfl) ?_
            refine rdo_call (nm := 75) rfl ⟨_, _, rfl, rfl, h6⟩ (cf rfl) (c_SameRow _ _) (rs_of rfl) rfl rfl rfl ?_
            refine rdk_take 27 rfl (by kernel_rfl) ⟨_, _, rfl, rfl, h6⟩ (q_not rfl) rfl ?_
            refine rdk_take 28 rfl (by kernel_rfl) trivial (q_pick_f rfl h6 rfl) rfl ?_
            refine rdk_endq (by kernel_rfl) ?_
            (repeat first | refine et ?_ | refine eb ?_)
            (repeat refine sq ?_)
            refine ev_cond_n rfl (fun h7 => ?_) (fun h7 => ?_)
            · try have d7 := of_decide_eq_false h7
              (repeat refine sq ?_)
              refine ev_pr [2, 3, 4, 6, 42, 43, 44, 45, 46, 47, 48, 49, 50, 51, 52, 53, 54, 55, 56, 57, 58, 59, 60, 61, 62, 63, 64, 65, 66, 67, 68, 69, 70, 71, 72, 73, 74, 75, 76, 77] rfl ?_
              refine rg ?_
              refine xs rfl rfl ?_
              refine nl ?_
              (repeat first | refine et ?_ | refine eb ?_)
              (repeat refine sq ?_)
              refine ev_ret ?_
              (repeat first | refine evr_then ?_ | refine evr_blk ?_)
              refine ret_pure' ttOk rfl rfl ?_
              refine congrArg bR (?_ : _ = _)
              first
              | (simp only [eqD]; rw [eqX_len (l := d.kept) (by omega)]; rfl)
              | (simp only [eqD]; rw [eqX_len (l := d.wait) (by omega), Bool.and_false])
              | (simp only [eqD]; rw [eqX_at (l := d.kept) (k := k) (by omega) (by omega) (eqL_no (by assumption))]; rfl)
              | (simp only [eqD]; rw [eqX_at (l := d.wait) (k := j) (by omega) (by omega) (at_no (by omega)), Bool.and_false])
              | (simp only [eqD]; rw [eqX_at (l := d.wait) (k := j) (by omega) (by omega) (at_no2 (by assumption)), Bool.and_false])
              | (simp only [eqD]; rw [eqX_all (l := d.kept) (by omega) (by omega) p1, eqX_all (l := d.wait) (by omega) (by omega) q1]; rfl)
            · try have d7 := of_decide_eq_true h7
              (repeat refine sq ?_)
              refine ev_skip ?_
              (repeat first | refine et ?_ | refine eb ?_)
              (repeat refine sq ?_)
              refine ev_pr [2, 3, 4, 6, 42, 43, 44, 45, 46, 47, 48, 49, 50, 51, 52, 53, 54, 55, 56, 57, 58, 59, 60, 61, 62, 63, 64, 65, 66, 67, 68, 69, 70, 71, 72, 73, 74, 75, 76, 77] rfl ?_
              refine rg ?_
              refine xm rfl rfl ?_
              refine xa rfl rfl rfl (by omega) rfl ?_
              refine xs rfl rfl ?_
              refine nl ?_
              (repeat first | refine et ?_ | refine eb ?_)
              (repeat first | refine et ?_ | refine eb ?_)
              refine eve_round (j + 1) [] ?hp ⟨by (repeat first | exact trivial | refine ⟨rfl, ?_⟩), by (repeat first | exact trivial | refine ⟨rfl, ?_⟩), by (repeat first | exact trivial | refine ⟨⟨_, rfl, rfl⟩, ?_⟩), by (repeat first | exact trivial | refine ⟨⟨_, rfl, rfl⟩, ?_⟩), rfl⟩
              case hp => exact ⟨⟨by omega, take_eq (by omega) (by omega) q1 (at_yes (by omega) (by assumption))⟩, by omega⟩
        · try have d5 := of_decide_eq_false h5
          (repeat refine sq ?_)
          refine ev_exit ?_
          (repeat first | refine evx_then ?_ | refine evx_hit ?_ | refine evx_miss rfl ?_)
          (repeat first | refine et ?_ | refine eb ?_)
          (repeat refine sq ?_)
          refine rg ?_
          refine xs rfl rfl ?_
          refine nl ?_
          (repeat first | refine et ?_ | refine eb ?_)
          (repeat refine sq ?_)
          refine ev_ret ?_
          (repeat first | refine evr_then ?_ | refine evr_blk ?_)
          refine ret_pure' ttOk rfl rfl ?_
          refine congrArg bR (?_ : _ = _)
          first
          | (simp only [eqD]; rw [eqX_len (l := d.kept) (by omega)]; rfl)
          | (simp only [eqD]; rw [eqX_len (l := d.wait) (by omega), Bool.and_false])
          | (simp only [eqD]; rw [eqX_at (l := d.kept) (k := k) (by omega) (by omega) (eqL_no (by assumption))]; rfl)
          | (simp only [eqD]; rw [eqX_at (l := d.wait) (k := j) (by omega) (by omega) (at_no (by omega)), Bool.and_false])
          | (simp only [eqD]; rw [eqX_at (l := d.wait) (k := j) (by omega) (by omega) (at_no2 (by assumption)), Bool.and_false])
          | (simp only [eqD]; rw [eqX_all (l := d.kept) (by omega) (by omega) p1, eqX_all (l := d.wait) (by omega) (by omega) q1]; rfl)
theorem c_SameLog' (x y : LogN) : Pure Try.prog 8 [many (logC x), many (logC y)] (bR (sameL x y)) := by
  refine pure_intro (N := 70) Try.func8 rfl rfl rfl rfl (fun H w => ?_)
  (repeat refine sq ?_)
  refine rg ?_
  refine evl_e (e_box rfl rfl rfl rfl) ?_
  refine evl_e (e_box rfl rfl rfl rfl) ?_
  refine xs rfl rfl ?_
  refine nl ?_
  (repeat first | refine et ?_ | refine eb ?_)
  (repeat refine sq ?_)
  refine rg ?_
  refine xf ttOk rfl rfl ?_
  refine xf ttOk rfl rfl ?_
  refine xl ttOk rfl rfl ?_
  refine xf ttOk rfl rfl ?_
  refine xf ttOk rfl rfl ?_
  refine xl ttOk rfl rfl ?_
  first | refine evl_call (nm := 11) (cf rfl) (c_sameDisk x.two.a y.two.a) (rs_of rfl) rfl rfl rfl ?_ | refine evl_call (nm := 11) (cf rfl) (c_sameDisk x.two.b y.two.b) (rs_of rfl) rfl rfl rfl ?_
  refine xm rfl rfl ?_
  refine evl_part rfl rfl (fun h1 => ?_) (fun h1 => ?_)
  · refine go h1 rfl rfl (q_fieldAddr ttOk rfl) rfl ?_
    refine go h1 rfl rfl (q_fieldAddr ttOk rfl) rfl ?_
    refine go h1 rfl rfl (q_load ttOk rfl) rfl ?_
    refine go h1 rfl rfl (q_fieldAddr ttOk rfl) rfl ?_
    refine go h1 rfl rfl (q_fieldAddr ttOk rfl) rfl ?_
    refine go h1 rfl rfl (q_load ttOk rfl) rfl ?_
    first | refine evl_callg rfl rfl h1 (nm := 19) (cf rfl) (c_sameDisk x.two.a y.two.a) (rs_of rfl) rfl rfl rfl ?_ | refine evl_callg rfl rfl h1 (nm := 19) (cf rfl) (c_sameDisk x.two.b y.two.b) (rs_of rfl) rfl rfl rfl ?_
    refine xo (q_pick_t rfl h1 rfl) rfl ?_
    refine xm rfl rfl ?_
    refine evl_part rfl rfl (fun h2 => ?_) (fun h2 => ?_)
    · refine go h2 rfl rfl (q_fieldAddr ttOk rfl) rfl ?_
      refine go h2 rfl rfl (q_load ttOk rfl) rfl ?_
      refine go h2 rfl rfl (q_fieldAddr ttOk rfl) rfl ?_
      refine go h2 rfl rfl (q_load ttOk rfl) rfl ?_
      refine evl_callg rfl rfl h2 (nm := 26) (cf rfl) (c_sameHead ⟨_, _, _, _⟩ ⟨_, _, _, _⟩) (rs_of rfl) rfl rfl rfl ?_
      refine xo (q_pick_t rfl h2 rfl) rfl ?_
      refine xm rfl rfl ?_
      refine evl_part rfl rfl (fun h3 => ?_) (fun h3 => ?_)
      · refine go h3 rfl rfl (q_fieldAddr ttOk rfl) rfl ?_
        refine go h3 rfl rfl (q_load ttOk rfl) rfl ?_
        refine go h3 rfl rfl (q_fieldAddr ttOk rfl) rfl ?_
        refine go h3 rfl rfl (q_load ttOk rfl) rfl ?_
        refine evl_callg rfl rfl h3 (nm := 33) (cf rfl) (c_sameHead ⟨_, _, _, _⟩ ⟨_, _, _, _⟩) (rs_of rfl) rfl rfl rfl ?_
        refine xo (q_pick_t rfl h3 rfl) rfl ?_
        refine xm rfl rfl ?_
        refine evl_part rfl rfl (fun h4 => ?_) (fun h4 => ?_)
        · refine go h4 rfl rfl (q_fieldAddr ttOk rfl) rfl ?_
          refine go h4 rfl rfl (q_load ttOk rfl) rfl ?_
          refine go h4 rfl rfl (q_fieldAddr ttOk rfl) rfl ?_
          refine go h4 rfl rfl (q_load ttOk rfl) rfl ?_
          refine go h4 rfl rfl (q_bin ttOk rfl) rfl ?_
          refine xo (q_pick_t rfl h4 rfl) rfl ?_
          refine xm rfl rfl ?_
          refine evl_part rfl rfl (fun h5 => ?_) (fun h5 => ?_)
          · refine go h5 rfl rfl (q_fieldAddr ttOk rfl) rfl ?_
            refine go h5 rfl rfl (q_load ttOk rfl) rfl ?_
            refine go h5 rfl rfl (q_fieldAddr ttOk rfl) rfl ?_
            refine go h5 rfl rfl (q_load ttOk rfl) rfl ?_
            refine evl_callg rfl rfl h5 (nm := 47) (cf rfl) (c_SameBook' ⟨_, _, _⟩ ⟨_, _, _⟩) (rs_of rfl) rfl rfl rfl ?_
            refine xo (q_pick_t rfl h5 rfl) rfl ?_
            refine xm rfl rfl ?_
            refine evl_part rfl rfl (fun h6 => ?_) (fun h6 => ?_)
            · refine go h6 rfl rfl (q_fieldAddr ttOk rfl) rfl ?_
              refine go h6 rfl rfl (q_load ttOk rfl) rfl ?_
              refine go h6 rfl rfl (q_fieldAddr ttOk rfl) rfl ?_
              refine go h6 rfl rfl (q_load ttOk rfl) rfl ?_
              refine evl_callg rfl rfl h6 (nm := 54) (cf rfl) (c_SameSeen' _ _) (rs_of rfl) rfl rfl rfl ?_
              refine xo (q_pick_t rfl h6 rfl) rfl ?_
              refine xm rfl rfl ?_
              refine evl_part rfl rfl (fun h7 => ?_) (fun h7 => ?_)
              · refine go h7 rfl rfl (q_fieldAddr ttOk rfl) rfl ?_
                refine go h7 rfl rfl (q_load ttOk rfl) rfl ?_
                refine go h7 rfl rfl (q_fieldAddr ttOk rfl) rfl ?_
                refine go h7 rfl rfl (q_load ttOk rfl) rfl ?_
                refine go h7 rfl rfl (q_bin ttOk rfl) rfl ?_
                refine xo (q_pick_t rfl h7 rfl) rfl ?_
                refine xm rfl rfl ?_
                refine evl_part rfl rfl (fun h8 => ?_) (fun h8 => ?_)
                · refine go h8 rfl rfl (q_fieldAddr ttOk rfl) rfl ?_
                  refine go h8 rfl rfl (q_load ttOk rfl) rfl ?_
                  refine go h8 rfl rfl (q_fieldAddr ttOk rfl) rfl ?_
                  refine go h8 rfl rfl (q_load ttOk rfl) rfl ?_
                  refine evl_callg rfl rfl h8 (nm := 68) (cf rfl) (c_eqAcks _ _) (rs_of rfl) rfl rfl rfl ?_
                  refine xo (q_pick_t rfl h8 rfl) rfl ?_
                  refine xs rfl rfl ?_
                  refine nl ?_
                  (repeat first | refine et ?_ | refine eb ?_)
                  (repeat refine sq ?_)
                  refine ev_ret ?_
                  (repeat first | refine evr_then ?_ | refine evr_blk ?_)
                  refine ret_pure' ttOk rfl rfl ?_
                  refine congrArg bR (?_ : _ = _)
                  simp_all [sameL]
                · refine gn h8 rfl rfl rfl ?_
                  refine gn h8 rfl rfl rfl ?_
                  refine gn h8 rfl rfl rfl ?_
                  refine gn h8 rfl rfl rfl ?_
                  refine gn h8 rfl rfl rfl ?_
                  refine xo (q_pick_f rfl h8 rfl) rfl ?_
                  refine xs rfl rfl ?_
                  refine nl ?_
                  (repeat first | refine et ?_ | refine eb ?_)
                  (repeat refine sq ?_)
                  refine ev_ret ?_
                  (repeat first | refine evr_then ?_ | refine evr_blk ?_)
                  refine ret_pure' ttOk rfl rfl ?_
                  refine congrArg bR (?_ : _ = _)
                  simp_all [sameL]
              · refine gn h7 rfl rfl rfl ?_
                refine gn h7 rfl rfl rfl ?_
                refine gn h7 rfl rfl rfl ?_
                refine gn h7 rfl rfl rfl ?_
                refine gn h7 rfl rfl rfl ?_
                refine xo (q_pick_f rfl h7 rfl) rfl ?_
                refine xm rfl rfl ?_
                refine gn rfl rfl rfl rfl ?_
                refine gn rfl rfl rfl rfl ?_
                refine gn rfl rfl rfl rfl ?_
                refine gn rfl rfl rfl rfl ?_
                refine gn rfl rfl rfl rfl ?_
                refine xo (q_pick_f rfl rfl rfl) rfl ?_
                refine xs rfl rfl ?_
                refine nl ?_
                (repeat first | refine et ?_ | refine eb ?_)
                (repeat refine sq ?_)
                refine ev_ret ?_
                (repeat first | refine evr_then ?_ | refine evr_blk ?_)
                refine ret_pure' ttOk rfl rfl ?_
                refine congrArg bR (?_ : _ = _)
                simp_all [sameL]
            · refine gn h6 rfl rfl rfl ?_
              refine gn h6 rfl rfl rfl ?_
              refine gn h6 rfl rfl rfl ?_
              refine gn h6 rfl rfl rfl ?_
              refine gn h6 rfl rfl rfl ?_
              refine xo (q_pick_f rfl h6 rfl) rfl ?_
              refine xm rfl rfl ?_
              refine gn rfl rfl rfl rfl ?_
              refine gn rfl rfl rfl rfl ?_
              refine gn rfl rfl rfl rfl ?_
              refine gn rfl rfl rfl rfl ?_
              refine gn rfl rfl rfl rfl ?_
              refine xo (q_pick_f rfl rfl rfl) rfl ?_
              refine xm rfl rfl ?_
              refine gn rfl rfl rfl rfl ?_
              refine gn rfl rfl rfl rfl ?_
              refine gn rfl rfl rfl rfl ?_
              refine gn rfl rfl rfl rfl ?_
              refine gn rfl rfl rfl rfl ?_
              refine xo (q_pick_f rfl rfl rfl) rfl ?_
              refine xs rfl rfl ?_
              refine nl ?_
              (repeat first | refine et ?_ | refine eb ?_)
              (repeat refine sq ?_)
              refine ev_ret ?_
              (repeat first | refine evr_then ?_ | refine evr_blk ?_)
              refine ret_pure' ttOk rfl rfl ?_
              refine congrArg bR (?_ : _ = _)
              simp_all [sameL]
          · refine gn h5 rfl rfl rfl ?_
            refine gn h5 rfl rfl rfl ?_
            refine gn h5 rfl rfl rfl ?_
            refine gn h5 rfl rfl rfl ?_
            refine gn h5 rfl rfl rfl ?_
            refine xo (q_pick_f rfl h5 rfl) rfl ?_
            refine xm rfl rfl ?_
            refine gn rfl rfl rfl rfl ?_
            refine gn rfl rfl rfl rfl ?_
            refine gn rfl rfl rfl rfl ?_
            refine gn rfl rfl rfl rfl ?_
            refine gn rfl rfl rfl rfl ?_
            refine xo (q_pick_f rfl rfl rfl) rfl ?_
            refine xm rfl rfl ?_
            refine gn rfl rfl rfl rfl ?_
            refine gn rfl rfl rfl rfl ?_
            refine gn rfl rfl rfl rfl ?_
            refine gn rfl rfl rfl rfl ?_
            refine gn rfl rfl rfl rfl ?_
            refine xo (q_pick_f rfl rfl rfl) rfl ?_
            refine xm rfl rfl ?_
            refine gn rfl rfl rfl rfl ?_
            refine gn rfl rfl rfl rfl ?_
            refine gn rfl rfl rfl rfl ?_
            refine gn rfl rfl rfl rfl ?_
            refine gn rfl rfl rfl rfl ?_
            refine xo (q_pick_f rfl rfl rfl) rfl ?_
            refine xs rfl rfl ?_
            refine nl ?_
            (repeat first | refine et ?_ | refine eb ?_)
            (repeat refine sq ?_)
            refine ev_ret ?_
            (repeat first | refine evr_then ?_ | refine evr_blk ?_)
            refine ret_pure' ttOk rfl rfl ?_
            refine congrArg bR (?_ : _ = _)
            simp_all [sameL]
        · refine gn h4 rfl rfl rfl ?_
          refine gn h4 rfl rfl rfl ?_
          refine gn h4 rfl rfl rfl ?_
          refine gn h4 rfl rfl rfl ?_
          refine gn h4 rfl rfl rfl ?_
          refine xo (q_pick_f rfl h4 rfl) rfl ?_
          refine xm rfl rfl ?_
          refine gn rfl rfl rfl rfl ?_
          refine gn rfl rfl rfl rfl ?_
          refine gn rfl rfl rfl rfl ?_
          refine gn rfl rfl rfl rfl ?_
          refine gn rfl rfl rfl rfl ?_
          refine xo (q_pick_f rfl rfl rfl) rfl ?_
          refine xm rfl rfl ?_
          refine gn rfl rfl rfl rfl ?_
          refine gn rfl rfl rfl rfl ?_
          refine gn rfl rfl rfl rfl ?_
          refine gn rfl rfl rfl rfl ?_
          refine gn rfl rfl rfl rfl ?_
          refine xo (q_pick_f rfl rfl rfl) rfl ?_
          refine xm rfl rfl ?_
          refine gn rfl rfl rfl rfl ?_
          refine gn rfl rfl rfl rfl ?_
          refine gn rfl rfl rfl rfl ?_
          refine gn rfl rfl rfl rfl ?_
          refine gn rfl rfl rfl rfl ?_
          refine xo (q_pick_f rfl rfl rfl) rfl ?_
          refine xm rfl rfl ?_
          refine gn rfl rfl rfl rfl ?_
          refine gn rfl rfl rfl rfl ?_
          refine gn rfl rfl rfl rfl ?_
          refine gn rfl rfl rfl rfl ?_
          refine gn rfl rfl rfl rfl ?_
          refine xo (q_pick_f rfl rfl rfl) rfl ?_
          refine xs rfl rfl ?_
          refine nl ?_
          (repeat first | refine et ?_ | refine eb ?_)
          (repeat refine sq ?_)
          refine ev_ret ?_
          (repeat first | refine evr_then ?_ | refine evr_blk ?_)
          refine ret_pure' ttOk rfl rfl ?_
          refine congrArg bR (?_ : _ = _)
          simp_all [sameL]
      · refine gn h3 rfl rfl rfl ?_
        refine gn h3 rfl rfl rfl ?_
        refine gn h3 rfl rfl rfl ?_
        refine gn h3 rfl rfl rfl ?_
        refine gn h3 rfl rfl rfl ?_
        refine xo (q_pick_f rfl h3 rfl) rfl ?_
        refine xm rfl rfl ?_
        refine gn rfl rfl rfl rfl ?_
        refine gn rfl rfl rfl rfl ?_
        refine gn rfl rfl rfl rfl ?_
        refine gn rfl rfl rfl rfl ?_
        refine gn rfl rfl rfl rfl ?_
        refine xo (q_pick_f rfl rfl rfl) rfl ?_
        refine xm rfl rfl ?_
        refine gn rfl rfl rfl rfl ?_
        refine gn rfl rfl rfl rfl ?_
        refine gn rfl rfl rfl rfl ?_
        refine gn rfl rfl rfl rfl ?_
        refine gn rfl rfl rfl rfl ?_
        refine xo (q_pick_f rfl rfl rfl) rfl ?_
        refine xm rfl rfl ?_
        refine gn rfl rfl rfl rfl ?_
        refine gn rfl rfl rfl rfl ?_
        refine gn rfl rfl rfl rfl ?_
        refine gn rfl rfl rfl rfl ?_
        refine gn rfl rfl rfl rfl ?_
        refine xo (q_pick_f rfl rfl rfl) rfl ?_
        refine xm rfl rfl ?_
        refine gn rfl rfl rfl rfl ?_
        refine gn rfl rfl rfl rfl ?_
        refine gn rfl rfl rfl rfl ?_
        refine gn rfl rfl rfl rfl ?_
        refine gn rfl rfl rfl rfl ?_
        refine xo (q_pick_f rfl rfl rfl) rfl ?_
        refine xm rfl rfl ?_
        refine gn rfl rfl rfl rfl ?_
        refine gn rfl rfl rfl rfl ?_
        refine gn rfl rfl rfl rfl ?_
        refine gn rfl rfl rfl rfl ?_
        refine gn rfl rfl rfl rfl ?_
        refine xo (q_pick_f rfl rfl rfl) rfl ?_
        refine xs rfl rfl ?_
        refine nl ?_
        (repeat first | refine et ?_ | refine eb ?_)
        (repeat refine sq ?_)
        refine ev_ret ?_
        (repeat first | refine evr_then ?_ | refine evr_blk ?_)
        refine ret_pure' ttOk rfl rfl ?_
        refine congrArg bR (?_ : _ = _)
        simp_all [sameL]
    · refine gn h2 rfl rfl rfl ?_
      refine gn h2 rfl rfl rfl ?_
      refine gn h2 rfl rfl rfl ?_
      refine gn h2 rfl rfl rfl ?_
      refine gn h2 rfl rfl rfl ?_
      refine xo (q_pick_f rfl h2 rfl) rfl ?_
      refine xm rfl rfl ?_
      refine gn rfl rfl rfl rfl ?_
      refine gn rfl rfl rfl rfl ?_
      refine gn rfl rfl rfl rfl ?_
      refine gn rfl rfl rfl rfl ?_
      refine gn rfl rfl rfl rfl ?_
      refine xo (q_pick_f rfl rfl rfl) rfl ?_
      refine xm rfl rfl ?_
      refine gn rfl rfl rfl rfl ?_
      refine gn rfl rfl rfl rfl ?_
      refine gn rfl rfl rfl rfl ?_
      refine gn rfl rfl rfl rfl ?_
      refine gn rfl rfl rfl rfl ?_
      refine xo (q_pick_f rfl rfl rfl) rfl ?_
      refine xm rfl rfl ?_
      refine gn rfl rfl rfl rfl ?_
      refine gn rfl rfl rfl rfl ?_
      refine gn rfl rfl rfl rfl ?_
      refine gn rfl rfl rfl rfl ?_
      refine gn rfl rfl rfl rfl ?_
      refine xo (q_pick_f rfl rfl rfl) rfl ?_
      refine xm rfl rfl ?_
      refine gn rfl rfl rfl rfl ?_
      refine gn rfl rfl rfl rfl ?_
      refine gn rfl rfl rfl rfl ?_
      refine gn rfl rfl rfl rfl ?_
      refine gn rfl rfl rfl rfl ?_
      refine xo (q_pick_f rfl rfl rfl) rfl ?_
      refine xm rfl rfl ?_
      refine gn rfl rfl rfl rfl ?_
      refine gn rfl rfl rfl rfl ?_
      refine gn rfl rfl rfl rfl ?_
      refine gn rfl rfl rfl rfl ?_
      refine gn rfl rfl rfl rfl ?_
      refine xo (q_pick_f rfl rfl rfl) rfl ?_
      refine xm rfl rfl ?_
      refine gn rfl rfl rfl rfl ?_
      refine gn rfl rfl rfl rfl ?_
      refine gn rfl rfl rfl rfl ?_
      refine gn rfl rfl rfl rfl ?_
      refine gn rfl rfl rfl rfl ?_
      refine xo (q_pick_f rfl rfl rfl) rfl ?_
      refine xs rfl rfl ?_
      refine nl ?_
      (repeat first | refine et ?_ | refine eb ?_)
      (repeat refine sq ?_)
      refine ev_ret ?_
      (repeat first | refine evr_then ?_ | refine evr_blk ?_)
      refine ret_pure' ttOk rfl rfl ?_
      refine congrArg bR (?_ : _ = _)
      simp_all [sameL]
  · refine gn h1 rfl rfl rfl ?_
    refine gn h1 rfl rfl rfl ?_
    refine gn h1 rfl rfl rfl ?_
    refine gn h1 rfl rfl rfl ?_
    refine gn h1 rfl rfl rfl ?_
    refine gn h1 rfl rfl rfl ?_
    refine gn h1 rfl rfl rfl ?_
    refine xo (q_pick_f rfl h1 rfl) rfl ?_
    refine xm rfl rfl ?_
    refine gn rfl rfl rfl rfl ?_
    refine gn rfl rfl rfl rfl ?_
    refine gn rfl rfl rfl rfl ?_
    refine gn rfl rfl rfl rfl ?_
    refine gn rfl rfl rfl rfl ?_
    refine xo (q_pick_f rfl rfl rfl) rfl ?_
    refine xm rfl rfl ?_
    refine gn rfl rfl rfl rfl ?_
    refine gn rfl rfl rfl rfl ?_
    refine gn rfl rfl rfl rfl ?_
    refine gn rfl rfl rfl rfl ?_
    refine gn rfl rfl rfl rfl ?_
    refine xo (q_pick_f rfl rfl rfl) rfl ?_
    refine xm rfl rfl ?_
    refine gn rfl rfl rfl rfl ?_
    refine gn rfl rfl rfl rfl ?_
    refine gn rfl rfl rfl rfl ?_
    refine gn rfl rfl rfl rfl ?_
    refine gn rfl rfl rfl rfl ?_
    refine xo (q_pick_f rfl rfl rfl) rfl ?_
    refine xm rfl rfl ?_
    refine gn rfl rfl rfl rfl ?_
    refine gn rfl rfl rfl rfl ?_
    refine gn rfl rfl rfl rfl ?_
    refine gn rfl rfl rfl rfl ?_
    refine gn rfl rfl rfl rfl ?_
    refine xo (q_pick_f rfl rfl rfl) rfl ?_
    refine xm rfl rfl ?_
    refine gn rfl rfl rfl rfl ?_
    refine gn rfl rfl rfl rfl ?_
    refine gn rfl rfl rfl rfl ?_
    refine gn rfl rfl rfl rfl ?_
    refine gn rfl rfl rfl rfl ?_
    refine xo (q_pick_f rfl rfl rfl) rfl ?_
    refine xm rfl rfl ?_
    refine gn rfl rfl rfl rfl ?_
    refine gn rfl rfl rfl rfl ?_
    refine gn rfl rfl rfl rfl ?_
    refine gn rfl rfl rfl rfl ?_
    refine gn rfl rfl rfl rfl ?_
    refine xo (q_pick_f rfl rfl rfl) rfl ?_
    refine xm rfl rfl ?_
    refine gn rfl rfl rfl rfl ?_
    refine gn rfl rfl rfl rfl ?_
    refine gn rfl rfl rfl rfl ?_
    refine gn rfl rfl rfl rfl ?_
    refine gn rfl rfl rfl rfl ?_
    refine xo (q_pick_f rfl rfl rfl) rfl ?_
    refine xs rfl rfl ?_
    refine nl ?_
    (repeat first | refine et ?_ | refine eb ?_)
    (repeat refine sq ?_)
    refine ev_ret ?_
    (repeat first | refine evr_then ?_ | refine evr_blk ?_)
    refine ret_pure' ttOk rfl rfl ?_
    refine congrArg bR (?_ : _ = _)
    simp_all [sameL]
theorem c_SameLog (x y : LogN) : Pure Try.prog 6 [many (logC x), many (logC y)] (bR (sameL x y)) := by
  refine pure_intro (N := 97) Try.func6 rfl rfl rfl rfl (fun H w => ?_)
  refine ev_lena 18 (t := 0) rfl rfl (fun hL => ?_)
  refine ev_lena 18 (t := 1) rfl rfl (fun hM => ?_)
  (repeat refine sq ?_)
  refine rg ?_
  refine evl_e (e_box rfl rfl rfl rfl) ?_
  refine evl_e (e_box rfl rfl rfl rfl) ?_
  refine xs rfl rfl ?_
  refine nl ?_
  (repeat first | refine et ?_ | refine eb ?_)
  (repeat refine sq ?_)
  refine rg ?_
  refine xf ttOk rfl rfl ?_
  refine xf ttOk rfl rfl ?_
  refine xl ttOk rfl rfl ?_
  refine xf ttOk rfl rfl ?_
  refine xf ttOk rfl rfl ?_
  refine xl ttOk rfl rfl ?_
  first | refine evl_call (nm := 12) (cf rfl) (c_l12SameDisk x.two.a y.two.a) (rs_of rfl) rfl rfl rfl ?_ | refine evl_call (nm := 12) (cf rfl) (c_l12SameDisk x.two.b y.two.b) (rs_of rfl) rfl rfl rfl ?_
  refine xo (q_not rfl) rfl ?_
  refine xm rfl rfl ?_
  refine evl_partn rfl rfl (fun h1 => ?_) (fun h1 => ?_)
  · try have d1 := of_decide_eq_false h1
    refine gn (nt h1) rfl rfl rfl ?_
    refine gn (nt h1) rfl rfl rfl ?_
    refine gn (nt h1) rfl rfl rfl ?_
    refine gn (nt h1) rfl rfl rfl ?_
    refine gn (nt h1) rfl rfl rfl ?_
    refine gn (nt h1) rfl rfl rfl ?_
    refine gn (nt h1) rfl rfl rfl ?_
    refine gn (nt h1) rfl rfl rfl ?_
    refine xo (q_pick_t rfl (nt h1) rfl) rfl ?_
    refine xm rfl rfl ?_
    refine gn rfl rfl rfl rfl ?_
    refine gn rfl rfl rfl rfl ?_
    refine gn rfl rfl rfl rfl ?_
    refine gn rfl rfl rfl rfl ?_
    refine gn rfl rfl rfl rfl ?_
    refine gn rfl rfl rfl rfl ?_
    refine xo (q_pick_t rfl rfl rfl) rfl ?_
    refine xm rfl rfl ?_
    refine gn rfl rfl rfl rfl ?_
    refine gn rfl rfl rfl rfl ?_
    refine gn rfl rfl rfl rfl ?_
    refine gn rfl rfl rfl rfl ?_
    refine gn rfl rfl rfl rfl ?_
    refine gn rfl rfl rfl rfl ?_
    refine xo (q_pick_t rfl rfl rfl) rfl ?_
    refine xm rfl rfl ?_
    refine gn rfl rfl rfl rfl ?_
    refine gn rfl rfl rfl rfl ?_
    refine gn rfl rfl rfl rfl ?_
    refine gn rfl rfl rfl rfl ?_
    refine gn rfl rfl rfl rfl ?_
    refine xo (q_pick_t rfl rfl rfl) rfl ?_
    refine xm rfl rfl ?_
    refine gn rfl rfl rfl rfl ?_
    refine gn rfl rfl rfl rfl ?_
    refine gn rfl rfl rfl rfl ?_
    refine gn rfl rfl rfl rfl ?_
    refine gn rfl rfl rfl rfl ?_
    refine gn rfl rfl rfl rfl ?_
    refine xo (q_pick_t rfl rfl rfl) rfl ?_
    refine xm rfl rfl ?_
    refine gn rfl rfl rfl rfl ?_
    refine gn rfl rfl rfl rfl ?_
    refine gn rfl rfl rfl rfl ?_
    refine gn rfl rfl rfl rfl ?_
    refine gn rfl rfl rfl rfl ?_
    refine gn rfl rfl rfl rfl ?_
    refine xo (q_pick_t rfl rfl rfl) rfl ?_
    refine xm rfl rfl ?_
    refine gn rfl rfl rfl rfl ?_
    refine gn rfl rfl rfl rfl ?_
    refine gn rfl rfl rfl rfl ?_
    refine gn rfl rfl rfl rfl ?_
    refine gn rfl rfl rfl rfl ?_
    refine xo (q_pick_t rfl rfl rfl) rfl ?_
    refine xm rfl rfl ?_
    refine gn rfl rfl rfl rfl ?_
    refine gn rfl rfl rfl rfl ?_
    refine gn rfl rfl rfl rfl ?_
    refine gn rfl rfl rfl rfl ?_
    refine gn rfl rfl rfl rfl ?_
    refine gn rfl rfl rfl rfl ?_
    refine gn rfl rfl rfl rfl ?_
    refine xo (q_pick_t rfl rfl rfl) rfl ?_
    refine nl ?_
    (repeat first | refine et ?_ | refine eb ?_)
    (repeat refine sq ?_)
    refine ev_cond_kt rfl rfl ?_
    (repeat refine sq ?_)
    refine ev_pr [2, 3, 4, 5, 79, 80, 81, 82, 83, 84, 85, 86, 87, 88, 89, 90, 91, 92, 93, 94, 95, 96] rfl ?_
    refine rg ?_
    refine xs rfl rfl ?_
    refine nl ?_
    (repeat first | refine et ?_ | refine eb ?_)
    (repeat refine sq ?_)
    refine ev_ret ?_
    (repeat first | refine evr_then ?_ | refine evr_blk ?_)
    refine ret_pure' ttOk rfl rfl ?_
    refine congrArg bR (?_ : _ = _)
    first
    | (have hx := eqN_len (f := Ack.nums) (l := x.owe) (m := y.owe) (by omega); simp_all [sameL]; done)
    | (have hx := eqN_at (f := Ack.nums) (l := x.owe) (m := y.owe) (k := k) (by omega) (by omega) (by assumption); simp_all [sameL]; done)
    | (have hx := takeN_all (f := Ack.nums) (l := x.owe) (m := y.owe) (k := k) (by omega) (by omega) p1; simp_all [sameL]; done)
    | (simp_all [sameL]; done)
  · try have d1 := of_decide_eq_true h1
    refine go (nf h1) rfl rfl (q_fieldAddr ttOk rfl) rfl ?_
    refine go (nf h1) rfl rfl (q_fieldAddr ttOk rfl) rfl ?_
    refine go (nf h1) rfl rfl (q_load ttOk rfl) rfl ?_
    refine go (nf h1) rfl rfl (q_fieldAddr ttOk rfl) rfl ?_
    refine go (nf h1) rfl rfl (q_fieldAddr ttOk rfl) rfl ?_
    refine go (nf h1) rfl rfl (q_load ttOk rfl) rfl ?_
    first | refine evl_callg rfl rfl (nf h1) (nm := 21) (cf rfl) (c_l12SameDisk x.two.a y.two.a) (rs_of rfl) rfl rfl rfl ?_ | refine evl_callg rfl rfl (nf h1) (nm := 21) (cf rfl) (c_l12SameDisk x.two.b y.two.b) (rs_of rfl) rfl rfl rfl ?_
    refine go (nf h1) rfl rfl (q_not rfl) rfl ?_
    refine xo (q_pick_f rfl (nf h1) rfl) rfl ?_
    refine xm rfl rfl ?_
    refine evl_partn rfl rfl (fun h2 => ?_) (fun h2 => ?_)
    · try have d2 := of_decide_eq_false h2
      refine gn (nt h2) rfl rfl rfl ?_
      refine gn (nt h2) rfl rfl rfl ?_
      refine gn (nt h2) rfl rfl rfl ?_
      refine gn (nt h2) rfl rfl rfl ?_
      refine gn (nt h2) rfl rfl rfl ?_
      refine gn (nt h2) rfl rfl rfl ?_
      refine xo (q_pick_t rfl (nt h2) rfl) rfl ?_
      refine xm rfl rfl ?_
      refine gn rfl rfl rfl rfl ?_
      refine gn rfl rfl rfl rfl ?_
      refine gn rfl rfl rfl rfl ?_
      refine gn rfl rfl rfl rfl ?_
      refine gn rfl rfl rfl rfl ?_
      refine gn rfl rfl rfl rfl ?_
      refine xo (q_pick_t rfl rfl rfl) rfl ?_
      refine xm rfl rfl ?_
      refine gn rfl rfl rfl rfl ?_
      refine gn rfl rfl rfl rfl ?_
      refine gn rfl rfl rfl rfl ?_
      refine gn rfl rfl rfl rfl ?_
      refine gn rfl rfl rfl rfl ?_
      refine xo (q_pick_t rfl rfl rfl) rfl ?_
      refine xm rfl rfl ?_
      refine gn rfl rfl rfl rfl ?_
      refine gn rfl rfl rfl rfl ?_
      refine gn rfl rfl rfl rfl ?_
      refine gn rfl rfl rfl rfl ?_
      refine gn rfl rfl rfl rfl ?_
      refine gn rfl rfl rfl rfl ?_
      refine xo (q_pick_t rfl rfl rfl) rfl ?_
      refine xm rfl rfl ?_
      refine gn rfl rfl rfl rfl ?_
      refine gn rfl rfl rfl rfl ?_
      refine gn rfl rfl rfl rfl ?_
      refine gn rfl rfl rfl rfl ?_
      refine gn rfl rfl rfl rfl ?_
      refine gn rfl rfl rfl rfl ?_
      refine xo (q_pick_t rfl rfl rfl) rfl ?_
      refine xm rfl rfl ?_
      refine gn rfl rfl rfl rfl ?_
      refine gn rfl rfl rfl rfl ?_
      refine gn rfl rfl rfl rfl ?_
      refine gn rfl rfl rfl rfl ?_
      refine gn rfl rfl rfl rfl ?_
      refine xo (q_pick_t rfl rfl rfl) rfl ?_
      refine xm rfl rfl ?_
      refine gn rfl rfl rfl rfl ?_
      refine gn rfl rfl rfl rfl ?_
      refine gn rfl rfl rfl rfl ?_
      refine gn rfl rfl rfl rfl ?_
      refine gn rfl rfl rfl rfl ?_
      refine gn rfl rfl rfl rfl ?_
      refine gn rfl rfl rfl rfl ?_
      refine xo (q_pick_t rfl rfl rfl) rfl ?_
      refine nl ?_
      (repeat first | refine et ?_ | refine eb ?_)
      (repeat refine sq ?_)
      refine ev_cond_kt rfl rfl ?_
      (repeat refine sq ?_)
      refine ev_pr [2, 3, 4, 5, 79, 80, 81, 82, 83, 84, 85, 86, 87, 88, 89, 90, 91, 92, 93, 94, 95, 96] rfl ?_
      refine rg ?_
      refine xs rfl rfl ?_
      refine nl ?_
      (repeat first | refine et ?_ | refine eb ?_)
      (repeat refine sq ?_)
      refine ev_ret ?_
      (repeat first | refine evr_then ?_ | refine evr_blk ?_)
      refine ret_pure' ttOk rfl rfl ?_
      refine congrArg bR (?_ : _ = _)
      first
      | (have hx := eqN_len (f := Ack.nums) (l := x.owe) (m := y.owe) (by omega); simp_all [sameL]; done)
      | (have hx := eqN_at (f := Ack.nums) (l := x.owe) (m := y.owe) (k := k) (by omega) (by omega) (by assumption); simp_all [sameL]; done)
      | (have hx := takeN_all (f := Ack.nums) (l := x.owe) (m := y.owe) (k := k) (by omega) (by omega) p1; simp_all [sameL]; done)
      | (simp_all [sameL]; done)
    · try have d2 := of_decide_eq_true h2
      refine go (nf h2) rfl rfl (q_fieldAddr ttOk rfl) rfl ?_
      refine go (nf h2) rfl rfl (q_load ttOk rfl) rfl ?_
      refine go (nf h2) rfl rfl (q_fieldAddr ttOk rfl) rfl ?_
      refine go (nf h2) rfl rfl (q_load ttOk rfl) rfl ?_
      refine evl_callg rfl rfl (nf h2) (nm := 29) (cf rfl) (c_l12SameHead ⟨_, _, _, _⟩ ⟨_, _, _, _⟩) (rs_of rfl) rfl rfl rfl ?_
      refine go (nf h2) rfl rfl (q_not rfl) rfl ?_
      refine xo (q_pick_f rfl (nf h2) rfl) rfl ?_
      refine xm rfl rfl ?_
      refine evl_partn rfl rfl (fun h3 => ?_) (fun h3 => ?_)
      · try have d3 := of_decide_eq_false h3
        refine gn (nt h3) rfl rfl rfl ?_
        refine gn (nt h3) rfl rfl rfl ?_
        refine gn (nt h3) rfl rfl rfl ?_
        refine gn (nt h3) rfl rfl rfl ?_
        refine gn (nt h3) rfl rfl rfl ?_
        refine gn (nt h3) rfl rfl rfl ?_
        refine xo (q_pick_t rfl (nt h3) rfl) rfl ?_
        refine xm rfl rfl ?_
        refine gn rfl rfl rfl rfl ?_
        refine gn rfl rfl rfl rfl ?_
        refine gn rfl rfl rfl rfl ?_
        refine gn rfl rfl rfl rfl ?_
        refine gn rfl rfl rfl rfl ?_
        refine xo (q_pick_t rfl rfl rfl) rfl ?_
        refine xm rfl rfl ?_
        refine gn rfl rfl rfl rfl ?_
        refine gn rfl rfl rfl rfl ?_
        refine gn rfl rfl rfl rfl ?_
        refine gn rfl rfl rfl rfl ?_
        refine gn rfl rfl rfl rfl ?_
        refine gn rfl rfl rfl rfl ?_
        refine xo (q_pick_t rfl rfl rfl) rfl ?_
        refine xm rfl rfl ?_
        refine gn rfl rfl rfl rfl ?_
        refine gn rfl rfl rfl rfl ?_
        refine gn rfl rfl rfl rfl ?_
        refine gn rfl rfl rfl rfl ?_
        refine gn rfl rfl rfl rfl ?_
        refine gn rfl rfl rfl rfl ?_
        refine xo (q_pick_t rfl rfl rfl) rfl ?_
        refine xm rfl rfl ?_
        refine gn rfl rfl rfl rfl ?_
        refine gn rfl rfl rfl rfl ?_
        refine gn rfl rfl rfl rfl ?_
        refine gn rfl rfl rfl rfl ?_
        refine gn rfl rfl rfl rfl ?_
        refine xo (q_pick_t rfl rfl rfl) rfl ?_
        refine xm rfl rfl ?_
        refine gn rfl rfl rfl rfl ?_
        refine gn rfl rfl rfl rfl ?_
        refine gn rfl rfl rfl rfl ?_
        refine gn rfl rfl rfl rfl ?_
        refine gn rfl rfl rfl rfl ?_
        refine gn rfl rfl rfl rfl ?_
        refine gn rfl rfl rfl rfl ?_
        refine xo (q_pick_t rfl rfl rfl) rfl ?_
        refine nl ?_
        (repeat first | refine et ?_ | refine eb ?_)
        (repeat refine sq ?_)
        refine ev_cond_kt rfl rfl ?_
        (repeat refine sq ?_)
        refine ev_pr [2, 3, 4, 5, 79, 80, 81, 82, 83, 84, 85, 86, 87, 88, 89, 90, 91, 92, 93, 94, 95, 96] rfl ?_
        refine rg ?_
        refine xs rfl rfl ?_
        refine nl ?_
        (repeat first | refine et ?_ | refine eb ?_)
        (repeat refine sq ?_)
        refine ev_ret ?_
        (repeat first | refine evr_then ?_ | refine evr_blk ?_)
        refine ret_pure' ttOk rfl rfl ?_
        refine congrArg bR (?_ : _ = _)
        first
        | (have hx := eqN_len (f := Ack.nums) (l := x.owe) (m := y.owe) (by omega); simp_all [sameL]; done)
        | (have hx := eqN_at (f := Ack.nums) (l := x.owe) (m := y.owe) (k := k) (by omega) (by omega) (by assumption); simp_all [sameL]; done)
        | (have hx := takeN_all (f := Ack.nums) (l := x.owe) (m := y.owe) (k := k) (by omega) (by omega) p1; simp_all [sameL]; done)
        | (simp_all [sameL]; done)
      · try have d3 := of_decide_eq_true h3
        refine go (nf h3) rfl rfl (q_fieldAddr ttOk rfl) rfl ?_
        refine go (nf h3) rfl rfl (q_load ttOk rfl) rfl ?_
        refine go (nf h3) rfl rfl (q_fieldAddr ttOk rfl) rfl ?_
        refine go (nf h3) rfl rfl (q_load ttOk rfl) rfl ?_
        refine evl_callg rfl rfl (nf h3) (nm := 37) (cf rfl) (c_l12SameHead ⟨_, _, _, _⟩ ⟨_, _, _, _⟩) (rs_of rfl) rfl rfl rfl ?_
        refine go (nf h3) rfl rfl (q_not rfl) rfl ?_
        refine xo (q_pick_f rfl (nf h3) rfl) rfl ?_
        refine xm rfl rfl ?_
        refine evl_partn rfl rfl (fun h4 => ?_) (fun h4 => ?_)
        · try have d4 := of_decide_eq_false h4
          refine gn (nt h4) rfl rfl rfl ?_
          refine gn (nt h4) rfl rfl rfl ?_
          refine gn (nt h4) rfl rfl rfl ?_
          refine gn (nt h4) rfl rfl rfl ?_
          refine gn (nt h4) rfl rfl rfl ?_
          refine xo (q_pick_t rfl (nt h4) rfl) rfl ?_
          refine xm rfl rfl ?_
          refine gn rfl rfl rfl rfl ?_
          refine gn rfl rfl rfl rfl ?_
          refine gn rfl rfl rfl rfl ?_
          refine gn rfl rfl rfl rfl ?_
          refine gn rfl rfl rfl rfl ?_
          refine gn rfl rfl rfl rfl ?_
          refine xo (q_pick_t rfl rfl rfl) rfl ?_
          refine xm rfl rfl ?_
          refine gn rfl rfl rfl rfl ?_
          refine gn rfl rfl rfl rfl ?_
          refine gn rfl rfl rfl rfl ?_
          refine gn rfl rfl rfl rfl ?_
          refine gn rfl rfl rfl rfl ?_
          refine gn rfl rfl rfl rfl ?_
          refine xo (q_pick_t rfl rfl rfl) rfl ?_
          refine xm rfl rfl ?_
          refine gn rfl rfl rfl rfl ?_
          refine gn rfl rfl rfl rfl ?_
          refine gn rfl rfl rfl rfl ?_
          refine gn rfl rfl rfl rfl ?_
          refine gn rfl rfl rfl rfl ?_
          refine xo (q_pick_t rfl rfl rfl) rfl ?_
          refine xm rfl rfl ?_
          refine gn rfl rfl rfl rfl ?_
          refine gn rfl rfl rfl rfl ?_
          refine gn rfl rfl rfl rfl ?_
          refine gn rfl rfl rfl rfl ?_
          refine gn rfl rfl rfl rfl ?_
          refine gn rfl rfl rfl rfl ?_
          refine gn rfl rfl rfl rfl ?_
          refine xo (q_pick_t rfl rfl rfl) rfl ?_
          refine nl ?_
          (repeat first | refine et ?_ | refine eb ?_)
          (repeat refine sq ?_)
          refine ev_cond_kt rfl rfl ?_
          (repeat refine sq ?_)
          refine ev_pr [2, 3, 4, 5, 79, 80, 81, 82, 83, 84, 85, 86, 87, 88, 89, 90, 91, 92, 93, 94, 95, 96] rfl ?_
          refine rg ?_
          refine xs rfl rfl ?_
          refine nl ?_
          (repeat first | refine et ?_ | refine eb ?_)
          (repeat refine sq ?_)
          refine ev_ret ?_
          (repeat first | refine evr_then ?_ | refine evr_blk ?_)
          refine ret_pure' ttOk rfl rfl ?_
          refine congrArg bR (?_ : _ = _)
          first
          | (have hx := eqN_len (f := Ack.nums) (l := x.owe) (m := y.owe) (by omega); simp_all [sameL]; done)
          | (have hx := eqN_at (f := Ack.nums) (l := x.owe) (m := y.owe) (k := k) (by omega) (by omega) (by assumption); simp_all [sameL]; done)
          | (have hx := takeN_all (f := Ack.nums) (l := x.owe) (m := y.owe) (k := k) (by omega) (by omega) p1; simp_all [sameL]; done)
          | (simp_all [sameL]; done)
        · try have d4 := of_decide_eq_true h4
          refine go (nf h4) rfl rfl (q_fieldAddr ttOk rfl) rfl ?_
          refine go (nf h4) rfl rfl (q_load ttOk rfl) rfl ?_
          refine go (nf h4) rfl rfl (q_fieldAddr ttOk rfl) rfl ?_
          refine go (nf h4) rfl rfl (q_load ttOk rfl) rfl ?_
          refine go (nf h4) rfl rfl (q_bin ttOk rfl) rfl ?_
          refine xo (q_pick_f rfl (nf h4) rfl) rfl ?_
          refine xm rfl rfl ?_
          refine evl_part rfl rfl (fun h5 => ?_) (fun h5 => ?_)
          · try have d5 := of_decide_eq_true h5
            refine gn h5 rfl rfl rfl ?_
            refine gn h5 rfl rfl rfl ?_
            refine gn h5 rfl rfl rfl ?_
            refine gn h5 rfl rfl rfl ?_
            refine gn h5 rfl rfl rfl ?_
            refine gn h5 rfl rfl rfl ?_
            refine xo (q_pick_t rfl h5 rfl) rfl ?_
            refine xm rfl rfl ?_
            refine gn rfl rfl rfl rfl ?_
            refine gn rfl rfl rfl rfl ?_
            refine gn rfl rfl rfl rfl ?_
            refine gn rfl rfl rfl rfl ?_
            refine gn rfl rfl rfl rfl ?_
            refine gn rfl rfl rfl rfl ?_
            refine xo (q_pick_t rfl rfl rfl) rfl ?_
            refine xm rfl rfl ?_
            refine gn rfl rfl rfl rfl ?_
            refine gn rfl rfl rfl rfl ?_
            refine gn rfl rfl rfl rfl ?_
            refine gn rfl rfl rfl rfl ?_
            refine gn rfl rfl rfl rfl ?_
            refine xo (q_pick_t rfl rfl rfl) rfl ?_
            refine xm rfl rfl ?_
            refine gn rfl rfl rfl rfl ?_
            refine gn rfl rfl rfl rfl ?_
            refine gn rfl rfl rfl rfl ?_
            refine gn rfl rfl rfl rfl ?_
            refine gn rfl rfl rfl rfl ?_
            refine gn rfl rfl rfl rfl ?_
            refine gn rfl rfl rfl rfl ?_
            refine xo (q_pick_t rfl rfl rfl) rfl ?_
            refine nl ?_
            (repeat first | refine et ?_ | refine eb ?_)
            (repeat refine sq ?_)
            refine ev_cond_kt rfl rfl ?_
            (repeat refine sq ?_)
            refine ev_pr [2, 3, 4, 5, 79, 80, 81, 82, 83, 84, 85, 86, 87, 88, 89, 90, 91, 92, 93, 94, 95, 96] rfl ?_
            refine rg ?_
            refine xs rfl rfl ?_
            refine nl ?_
            (repeat first | refine et ?_ | refine eb ?_)
            (repeat refine sq ?_)
            refine ev_ret ?_
            (repeat first | refine evr_then ?_ | refine evr_blk ?_)
            refine ret_pure' ttOk rfl rfl ?_
            refine congrArg bR (?_ : _ = _)
            first
            | (have hx := eqN_len (f := Ack.nums) (l := x.owe) (m := y.owe) (by omega); simp_all [sameL]; done)
            | (have hx := eqN_at (f := Ack.nums) (l := x.owe) (m := y.owe) (k := k) (by omega) (by omega) (by assumption); simp_all [sameL]; done)
            | (have hx := takeN_all (f := Ack.nums) (l := x.owe) (m := y.owe) (k := k) (by omega) (by omega) p1; simp_all [sameL]; done)
            | (simp_all [sameL]; done)
          · try have d5 := of_decide_eq_false h5
            refine go h5 rfl rfl (q_fieldAddr ttOk rfl) rfl ?_
            refine go h5 rfl rfl (q_load ttOk rfl) rfl ?_
            refine go h5 rfl rfl (q_fieldAddr ttOk rfl) rfl ?_
            refine go h5 rfl rfl (q_load ttOk rfl) rfl ?_
            refine evl_callg rfl rfl h5 (nm := 52) (cf rfl) (c_SameBook ⟨_, _, _⟩ ⟨_, _, _⟩) (rs_of rfl) rfl rfl rfl ?_
            refine go h5 rfl rfl (q_not rfl) rfl ?_
            refine xo (q_pick_f rfl h5 rfl) rfl ?_
            refine xm rfl rfl ?_
            refine evl_partn rfl rfl (fun h6 => ?_) (fun h6 => ?_)
            · try have d6 := of_decide_eq_false h6
              refine gn (nt h6) rfl rfl rfl ?_
              refine gn (nt h6) rfl rfl rfl ?_
              refine gn (nt h6) rfl rfl rfl ?_
              refine gn (nt h6) rfl rfl rfl ?_
              refine gn (nt h6) rfl rfl rfl ?_
              refine gn (nt h6) rfl rfl rfl ?_
              refine xo (q_pick_t rfl (nt h6) rfl) rfl ?_
              refine xm rfl rfl ?_
              refine gn rfl rfl rfl rfl ?_
              refine gn rfl rfl rfl rfl ?_
              refine gn rfl rfl rfl rfl ?_
              refine gn rfl rfl rfl rfl ?_
              refine gn rfl rfl rfl rfl ?_
              refine xo (q_pick_t rfl rfl rfl) rfl ?_
              refine xm rfl rfl ?_
              refine gn rfl rfl rfl rfl ?_
              refine gn rfl rfl rfl rfl ?_
              refine gn rfl rfl rfl rfl ?_
              refine gn rfl rfl rfl rfl ?_
              refine gn rfl rfl rfl rfl ?_
              refine gn rfl rfl rfl rfl ?_
              refine gn rfl rfl rfl rfl ?_
              refine xo (q_pick_t rfl rfl rfl) rfl ?_
              refine nl ?_
              (repeat first | refine et ?_ | refine eb ?_)
              (repeat refine sq ?_)
              refine ev_cond_kt rfl rfl ?_
              (repeat refine sq ?_)
              refine ev_pr [2, 3, 4, 5, 79, 80, 81, 82, 83, 84, 85, 86, 87, 88, 89, 90, 91, 92, 93, 94, 95, 96] rfl ?_
              refine rg ?_
              refine xs rfl rfl ?_
              refine nl ?_
              (repeat first | refine et ?_ | refine eb ?_)
              (repeat refine sq ?_)
              refine ev_ret ?_
              (repeat first | refine evr_then ?_ | refine evr_blk ?_)
              refine ret_pure' ttOk rfl rfl ?_
              refine congrArg bR (?_ : _ = _)
              first
              | (have hx := eqN_len (f := Ack.nums) (l := x.owe) (m := y.owe) (by omega); simp_all [sameL]; done)
              | (have hx := eqN_at (f := Ack.nums) (l := x.owe) (m := y.owe) (k := k) (by omega) (by omega) (by assumption); simp_all [sameL]; done)
              | (have hx := takeN_all (f := Ack.nums) (l := x.owe) (m := y.owe) (k := k) (by omega) (by omega) p1; simp_all [sameL]; done)
              | (simp_all [sameL]; done)
            · try have d6 := of_decide_eq_true h6
              refine go (nf h6) rfl rfl (q_fieldAddr ttOk rfl) rfl ?_
              refine go (nf h6) rfl rfl (q_load ttOk rfl) rfl ?_
              refine go (nf h6) rfl rfl (q_fieldAddr ttOk rfl) rfl ?_
              refine go (nf h6) rfl rfl (q_load ttOk rfl) rfl ?_
              refine evl_callg rfl rfl (nf h6) (nm := 60) (cf rfl) (c_SameSeen _ _) (rs_of rfl) rfl rfl rfl ?_
              refine go (nf h6) rfl rfl (q_not rfl) rfl ?_
              refine xo (q_pick_f rfl (nf h6) rfl) rfl ?_
              refine xm rfl rfl ?_
              refine evl_partn rfl rfl (fun h7 => ?_) (fun h7 => ?_)
              · try have d7 := of_decide_eq_false h7
                refine gn (nt h7) rfl rfl rfl ?_
                refine gn (nt h7) rfl rfl rfl ?_
                refine gn (nt h7) rfl rfl rfl ?_
                refine gn (nt h7) rfl rfl rfl ?_
                refine gn (nt h7) rfl rfl rfl ?_
                refine xo (q_pick_t rfl (nt h7) rfl) rfl ?_
                refine xm rfl rfl ?_
                refine gn rfl rfl rfl rfl ?_
                refine gn rfl rfl rfl rfl ?_
                refine gn rfl rfl rfl rfl ?_
                refine gn rfl rfl rfl rfl ?_
                refine gn rfl rfl rfl rfl ?_
                refine gn rfl rfl rfl rfl ?_
                refine gn rfl rfl rfl rfl ?_
                refine xo (q_pick_t rfl rfl rfl) rfl ?_
                refine nl ?_
                (repeat first | refine et ?_ | refine eb ?_)
                (repeat refine sq ?_)
                refine ev_cond_kt rfl rfl ?_
                (repeat refine sq ?_)
                refine ev_pr [2, 3, 4, 5, 79, 80, 81, 82, 83, 84, 85, 86, 87, 88, 89, 90, 91, 92, 93, 94, 95, 96] rfl ?_
                refine rg ?_
                refine xs rfl rfl ?_
                refine nl ?_
                (repeat first | refine et ?_ | refine eb ?_)
                (repeat refine sq ?_)
                refine ev_ret ?_
                (repeat first | refine evr_then ?_ | refine evr_blk ?_)
                refine ret_pure' ttOk rfl rfl ?_
                refine congrArg bR (?_ : _ = _)
                first
                | (have hx := eqN_len (f := Ack.nums) (l := x.owe) (m := y.owe) (by omega); simp_all [sameL]; done)
                | (have hx := eqN_at (f := Ack.nums) (l := x.owe) (m := y.owe) (k := k) (by omega) (by omega) (by assumption); simp_all [sameL]; done)
                | (have hx := takeN_all (f := Ack.nums) (l := x.owe) (m := y.owe) (k := k) (by omega) (by omega) p1; simp_all [sameL]; done)
                | (simp_all [sameL]; done)
              · try have d7 := of_decide_eq_true h7
                refine go (nf h7) rfl rfl (q_fieldAddr ttOk rfl) rfl ?_
                refine go (nf h7) rfl rfl (q_load ttOk rfl) rfl ?_
                refine go (nf h7) rfl rfl (q_fieldAddr ttOk rfl) rfl ?_
                refine go (nf h7) rfl rfl (q_load ttOk rfl) rfl ?_
                refine go (nf h7) rfl rfl (q_bin ttOk rfl) rfl ?_
                refine xo (q_pick_f rfl (nf h7) rfl) rfl ?_
                refine xm rfl rfl ?_
                refine evl_part rfl rfl (fun h8 => ?_) (fun h8 => ?_)
                · try have d8 := of_decide_eq_true h8
                  refine gn h8 rfl rfl rfl ?_
                  refine gn h8 rfl rfl rfl ?_
                  refine gn h8 rfl rfl rfl ?_
                  refine gn h8 rfl rfl rfl ?_
                  refine gn h8 rfl rfl rfl ?_
                  refine gn h8 rfl rfl rfl ?_
                  refine gn h8 rfl rfl rfl ?_
                  refine xo (q_pick_t rfl h8 rfl) rfl ?_
                  refine nl ?_
                  (repeat first | refine et ?_ | refine eb ?_)
                  (repeat refine sq ?_)
                  refine ev_cond_kt rfl rfl ?_
                  (repeat refine sq ?_)
                  refine ev_pr [2, 3, 4, 5, 79, 80, 81, 82, 83, 84, 85, 86, 87, 88, 89, 90, 91, 92, 93, 94, 95, 96] rfl ?_
                  refine rg ?_
                  refine xs rfl rfl ?_
                  refine nl ?_
                  (repeat first | refine et ?_ | refine eb ?_)
                  (repeat refine sq ?_)
                  refine ev_ret ?_
                  (repeat first | refine evr_then ?_ | refine evr_blk ?_)
                  refine ret_pure' ttOk rfl rfl ?_
                  refine congrArg bR (?_ : _ = _)
                  first
                  | (have hx := eqN_len (f := Ack.nums) (l := x.owe) (m := y.owe) (by omega); simp_all [sameL]; done)
                  | (have hx := eqN_at (f := Ack.nums) (l := x.owe) (m := y.owe) (k := k) (by omega) (by omega) (by assumption); simp_all [sameL]; done)
                  | (have hx := takeN_all (f := Ack.nums) (l := x.owe) (m := y.owe) (k := k) (by omega) (by omega) p1; simp_all [sameL]; done)
                  | (simp_all [sameL]; done)
                · try have d8 := of_decide_eq_false h8
                  refine go h8 rfl rfl (q_fieldAddr ttOk rfl) rfl ?_
                  refine go h8 rfl rfl (q_load ttOk rfl) rfl ?_
                  refine go h8 rfl rfl (q_len_map ttOk rfl rfl) rfl ?_
                  refine go h8 rfl rfl (q_fieldAddr ttOk rfl) rfl ?_
                  refine go h8 rfl rfl (q_load ttOk rfl) rfl ?_
                  refine go h8 rfl rfl (q_len_map ttOk rfl rfl) rfl ?_
                  refine go h8 rfl rfl (q_bin ttOk rfl) rfl ?_
                  refine xo (q_pick_f rfl h8 rfl) rfl ?_
                  refine nl ?_
                  (repeat first | refine et ?_ | refine eb ?_)
                  (repeat refine sq ?_)
                  refine ev_cond rfl (fun h9 => ?_) (fun h9 => ?_)
                  · try have d9 := of_decide_eq_true h9
                    (repeat refine sq ?_)
                    refine ev_pr [2, 3, 4, 5, 79, 80, 81, 82, 83, 84, 85, 86, 87, 88, 89, 90, 91, 92, 93, 94, 95, 96] rfl ?_
                    refine rg ?_
                    refine xs rfl rfl ?_
                    refine nl ?_
                    (repeat first | refine et ?_ | refine eb ?_)
                    (repeat refine sq ?_)
                    refine ev_ret ?_
                    (repeat first | refine evr_then ?_ | refine evr_blk ?_)
                    refine ret_pure' ttOk rfl rfl ?_
                    refine congrArg bR (?_ : _ = _)
                    first
                    | (have hx := eqN_len (f := Ack.nums) (l := x.owe) (m := y.owe) (by omega); simp_all [sameL]; done)
                    | (have hx := eqN_at (f := Ack.nums) (l := x.owe) (m := y.owe) (k := k) (by omega) (by omega) (by assumption); simp_all [sameL]; done)
                    | (have hx := takeN_all (f := Ack.nums) (l := x.owe) (m := y.owe) (k := k) (by omega) (by omega) p1; simp_all [sameL]; done)
                    | (simp_all [sameL]; done)
                  · try have d9 := of_decide_eq_false h9
                    (repeat refine sq ?_)
                    refine ev_skip ?_
                    (repeat first | refine et ?_ | refine eb ?_)
                    (repeat refine sq ?_)
                    refine ev_pr [2, 3, 4, 5, 79, 80, 81, 82, 83, 84, 85, 86, 87, 88, 89, 90, 91, 92, 93, 94, 95, 96] rfl ?_
                    refine rg ?_
                    refine xs rfl rfl ?_
                    refine nl ?_
                    (repeat first | refine et ?_ | refine eb ?_)
                    (repeat refine sq ?_)
                    refine ev_blk ?_
                    (repeat refine sq ?_)
                    refine ev_loop (fun k : Nat => (⟨[(5, iV k), (2, pbV 2 0), (3, pbV 3 0)], [(3, 52, [.c (rows y.two.a.kept), .c (writes y.two.a.wait), .c (rows y.two.b.kept), .c (writes y.two.b.wait), .c (iC y.head.num), .c (iC y.head.base), .c (iC y.head.time), .c (marks y.head.seen), .c (iC y.next.num), .c (iC y.next.base), .c (iC y.next.time), .c (marks y.next.seen), .c (bC y.more), .c (iC y.book.base), .c (iC y.book.time), .c (entries y.book.entries), .c (marks y.seen), .c (iC y.durable), .c (acks y.owe)]), (2, 52, [.c (rows x.two.a.kept), .c (writes x.two.a.wait), .c (rows x.two.b.kept), .c (writes x.two.b.wait), .c (iC x.head.num), .c (iC x.head.base), .c (iC x.head.time), .c (marks x.head.seen), .c (iC x.next.num), .c (iC x.next.base), .c (iC x.next.time), .c (marks x.next.seen), .c (bC x.more), .c (iC x.book.base), .c (iC x.book.time), .c (entries x.book.entries), .c (marks x.seen), .c (iC x.durable), .c (acks x.owe)])], [], []⟩ : St)) (fun k => k ≤ x.owe.length ∧ (x.owe.take k).map Ack.nums = (y.owe.take k).map Ack.nums) (fun k => x.owe.length - k) 0 [] (⟨by simp, by simp⟩) ⟨by (repeat first | exact trivial | refine ⟨rfl, ?_⟩), by (repeat first | exact trivial | refine ⟨rfl, ?_⟩), by (repeat first | exact trivial | refine ⟨⟨_, rfl, rfl⟩, ?_⟩), by (repeat first | exact trivial | refine ⟨⟨_, rfl, rfl⟩, ?_⟩), rfl⟩ ?_
                    intro k hp
                    obtain ⟨p0, p1⟩ := hp
                    show Ev _ _ _ _ (⟨[(5, iV k), (2, pbV 2 0), (3, pbV 3 0)], [(3, 52, [.c (rows y.two.a.kept), .c (writes y.two.a.wait), .c (rows y.two.b.kept), .c (writes y.two.b.wait), .c (iC y.head.num), .c (iC y.head.base), .c (iC y.head.time), .c (marks y.head.seen), .c (iC y.next.num), .c (iC y.next.base), .c (iC y.next.time), .c (marks y.next.seen), .c (bC y.more), .c (iC y.book.base), .c (iC y.book.time), .c (entries y.book.entries), .c (marks y.seen), .c (iC y.durable), .c (acks y.owe)]), (2, 52, [.c (rows x.two.a.kept), .c (writes x.two.a.wait), .c (rows x.two.b.kept), .c (writes x.two.b.wait), .c (iC x.head.num), .c (iC x.head.base), .c (iC x.head.time), .c (marks x.head.seen), .c (iC x.next.num), .c (iC x.next.base), .c (iC x.next.time), .c (marks x.next.seen), .c (bC x.more), .c (iC x.book.base), .c (iC x.book.time), .c (entries x.book.entries), .c (marks x.seen), .c (iC x.durable), .c (acks x.owe)])], [], []⟩ : St)
                    (repeat refine sq ?_)
                    refine rg ?_
                    refine xm rfl rfl ?_
                    refine xf ttOk rfl rfl ?_
                    refine xl ttOk rfl rfl ?_
                    refine xo (q_len_map ttOk rfl rfl) rfl ?_
                    refine xb ttOk rfl rfl ?_
                    refine nl ?_
                    (repeat first | refine et ?_ | refine eb ?_)
                    (repeat refine sq ?_)
                    refine ev_cond rfl (fun h10 => ?_) (fun h10 => ?_)
                    · try have d10 := of_decide_eq_true h10
                      (repeat refine sq ?_)
                      refine ev_skip ?_
                      (repeat first | refine et ?_ | refine eb ?_)
                      (repeat refine sq ?_)
                      refine ev_blk ?_
                      (repeat refine sq ?_)
                      refine ev_drawq [] mo ?_
                      refine rdk_take 0 rfl (by kernel_rfl) trivial (q_fieldAddr ttOk rfl) rfl ?_
                      refine rdk_take 1 rfl (by kernel_rfl) trivial (q_load ttOk rfl) rfl ?_
                      refine rdk_take 2 rfl (by kernel_rfl) trivial (q_move rfl) rfl ?_
                      refine rdk_take 3 rfl (by kernel_rfl) trivial (q_ix_map ttOk rfl rfl rfl rfl (by omega)) rfl ?_
                      refine rdk_take 4 rfl (by kernel_rfl) trivial (q_load ttOk rfl) rfl ?_
                      refine rdk_take 5 rfl (by kernel_rfl) trivial (q_fieldAddr ttOk rfl) rfl ?_
                      refine rdk_take 6 rfl (by kernel_rfl) trivial (q_load ttOk rfl) rfl ?_
                      refine rdk_take 7 rfl (by kernel_rfl) trivial (q_move rfl) rfl ?_
                      refine rdk_take 8 rfl (by kernel_rfl) trivial (q_ix_map ttOk rfl rfl rfl rfl (by omega)) rfl ?_
                      refine rdk_take 9 rfl (by kernel_rfl) trivial (q_load ttOk rfl) rfl ?_
                      first | refine rdk_take 10 rfl (by kernel_rfl) trivial (q_eqS (n := 4) (by kernel_rfl) rfl rfl rfl rfl rfl rfl rfl) rfl ?_ | refine rdk_take 10 rfl (by kernel_rfl) trivial (q_bin ttOk rfl) rfl ?_
                      refine rdk_endq (by kernel_rfl) ?_
                      (repeat first | refine et ?_ | refine eb ?_)
                      (repeat refine sq ?_)
                      refine ev_cond rfl (fun h11 => ?_) (fun h11 => ?_)
                      · try have d11 := of_decide_eq_true h11
                        (repeat refine sq ?_)
                        refine rg ?_
                        refine xs rfl rfl ?_
                        refine nl ?_
                        (repeat first | refine et ?_ | refine eb ?_)
                        (repeat refine sq ?_)
                        refine ev_ret ?_
                        (repeat first | refine evr_then ?_ | refine evr_blk ?_)
                        refine ret_pure' ttOk rfl rfl ?_
                        refine congrArg bR (?_ : _ = _)
                        first
                        | (have hx := eqN_len (f := Ack.nums) (l := x.owe) (m := y.owe) (by omega); simp_all [sameL]; done)
                        | (have hx := eqN_at (f := Ack.nums) (l := x.owe) (m := y.owe) (k := k) (by omega) (by omega) (by assumption); simp_all [sameL]; done)
                        | (have hx := takeN_all (f := Ack.nums) (l := x.owe) (m := y.owe) (k := k) (by omega) (by omega) p1; simp_all [sameL]; done)
                        | (simp_all [sameL]; done)
                      · try have d11 := of_decide_eq_false h11
                        (repeat refine sq ?_)
                        refine ev_skip ?_
                        (repeat first | refine et ?_ | refine eb ?_)
                        (repeat refine sq ?_)
                        refine rg ?_
                        refine xm rfl rfl ?_
                        refine xa rfl rfl rfl (by omega) rfl ?_
                        refine xs rfl rfl ?_
                        refine nl ?_
                        (repeat first | refine et ?_ | refine eb ?_)
                        (repeat first | refine et ?_ | refine eb ?_)
                        refine eve_round (k + 1) [] ?hp ⟨by (repeat first | exact trivial | refine ⟨rfl, ?_⟩), by (repeat first | exact trivial | refine ⟨rfl, ?_⟩), by (repeat first | exact trivial | refine ⟨⟨_, rfl, rfl⟩, ?_⟩), by (repeat first | exact trivial | refine ⟨⟨_, rfl, rfl⟩, ?_⟩), rfl⟩
                        case hp => exact ⟨⟨by omega, takeN (by omega) (by omega) p1 (Decidable.not_not.1 (by assumption))⟩, by omega⟩
                    · try have d10 := of_decide_eq_false h10
                      (repeat refine sq ?_)
                      refine ev_exit ?_
                      (repeat first | refine evx_then ?_ | refine evx_hit ?_ | refine evx_miss rfl ?_)
                      (repeat first | refine et ?_ | refine eb ?_)
                      (repeat refine sq ?_)
                      refine rg ?_
                      refine xs rfl rfl ?_
                      refine nl ?_
                      (repeat first | refine et ?_ | refine eb ?_)
                      (repeat refine sq ?_)
                      refine ev_ret ?_
                      (repeat first | refine evr_then ?_ | refine evr_blk ?_)
                      refine ret_pure' ttOk rfl rfl ?_
                      refine congrArg bR (?_ : _ = _)
                      first
                      | (have hx := eqN_len (f := Ack.nums) (l := x.owe) (m := y.owe) (by omega); simp_all [sameL]; done)
                      | (have hx := eqN_at (f := Ack.nums) (l := x.owe) (m := y.owe) (k := k) (by omega) (by omega) (by assumption); simp_all [sameL]; done)
                      | (have hx := takeN_all (f := Ack.nums) (l := x.owe) (m := y.owe) (k := k) (by omega) (by omega) p1; simp_all [sameL]; done)
                      | (simp_all [sameL]; done)

end Go.Proofs.Ytpbhcdgdabfhfaa
