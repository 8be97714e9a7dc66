/- Walks of functions of the program, printed by a program of the prover. -/
import Derived.Test.YtpbhcdgdabfhfaaGreatF19
import Derived.Test.YtpbhcdgdabfhfaaGreatVN
namespace Go.Proofs.YtpbhcdgdabfhfaaGreat
open Go.ChangeShapes Go.WideShapes Go.ChangeAt Go.RowKit
set_option linter.unusedVariables false
set_option linter.unusedSimpArgs false
set_option maxHeartbeats 1000000
set_option maxRecDepth 100000
attribute [local irreducible] EvL Ev EvE Quiet Eff Pure RDk RDb RDo
def eqX {α : Type} [DecidableEq α] (l m : List α) : Bool := decide (l = m)
theorem eqX_len {α : Type} [DecidableEq α] {l m : List α} (h : (l.length : Int) ≠ m.length) : eqX l m = false := decide_eq_false fun e => h (by rw [e])
theorem eqX_at {α : Type} [DecidableEq α] {l m : List α} {k : Nat} (h1 : k < l.length) (h2 : k < m.length) (h : l[k] ≠ m[k]) : eqX l m = false := decide_eq_false fun e => h (by subst e; rfl)
theorem eqX_all {α : Type} [DecidableEq α] {l m : List α} {k : Nat} (h1 : ¬ k < l.length) (h2 : l.length = m.length) (hp : l.take k = m.take k) : eqX l m = true := decide_eq_true (take_all h1 h2 hp)
def eqD (d e : Disk) : Bool := eqX d.kept e.kept && eqX d.wait e.wait
def eqHd (a b : Head) : Bool := decide (a.num = b.num) && (decide (a.base = b.base) && (decide (a.time = b.time) && eqN Mark.nums a.seen b.seen))
def eqBk (a b : Book) : Bool := decide (a.base = b.base) && (decide (a.time = b.time) && eqN Entry.nums a.entries b.entries)
def wEq (x y : Int × List Int) : Bool := decide (x.1 = y.1) && eqL x.2 y.2
theorem wEq_no {x y : Int × List Int} (h : wEq x y = false) : x ≠ y := fun e => by subst e; simp [wEq, eqL] at h
theorem wEq_yes {x y : Int × List Int} (h : wEq x y = true) : x = y := by
  simp only [wEq, eqL, Bool.and_eq_true, decide_eq_true_eq] at h
  exact Prod.ext h.1 h.2
theorem eqL_no {x y : List Int} (h : eqL x y = false) : x ≠ y := of_decide_eq_false h
theorem eqL_yes {x y : List Int} (h : eqL x y = true) : x = y := of_decide_eq_true h
theorem at_no {x y : Int × List Int} (h : ¬ x.1 = y.1) : x ≠ y := fun e => h (by rw [e])
theorem at_no2 {x y : Int × List Int} (h : eqL x.2 y.2 = false) : x ≠ y := fun e => eqL_no h (by rw [e])
theorem at_yes {x y : Int × List Int} (h : x.1 = y.1) (h2 : eqL x.2 y.2 = true) : x = y := Prod.ext h (eqL_yes h2)
def sameL (a b : LogN) : Bool := eqD a.two.a b.two.a && (eqD a.two.b b.two.b && (eqHd a.head b.head && (eqHd a.next b.next && ((a.more == b.more) && (eqBk a.book b.book && (eqN Mark.nums a.seen b.seen && (decide (a.durable = b.durable) && eqN Ack.nums a.owe b.owe)))))))
theorem c_l12SameHead (x y : Head) : Pure Tryz.prog 79 [many (headC x), many (headC y)] (bR (eqHd x y)) := by
  refine pure_intro (N := 31) Tryz.func79 rfl rfl rfl rfl (fun H w => ?_)
  (repeat refine sq ?_)
  refine rg ?_
  refine evl_e (e_box rfl rfl rfl rfl) ?_
  refine evl_e (e_box rfl rfl rfl rfl) ?_
  refine xs rfl rfl ?_
  refine nl ?_
  (repeat first | refine et ?_ | refine eb ?_)
  (repeat refine sq ?_)
  refine rg ?_
  refine xf ttOk rfl rfl ?_
  refine xl ttOk rfl rfl ?_
  refine xf ttOk rfl rfl ?_
  refine xl ttOk rfl rfl ?_
  refine xb ttOk rfl rfl ?_
  refine xm rfl rfl ?_
  refine evl_part rfl rfl (fun h1 => ?_) (fun h1 => ?_)
  · refine go h1 rfl rfl (q_fieldAddr ttOk rfl) rfl ?_
    refine go h1 rfl rfl (q_load ttOk rfl) rfl ?_
    refine go h1 rfl rfl (q_fieldAddr ttOk rfl) rfl ?_
    refine go h1 rfl rfl (q_load ttOk rfl) rfl ?_
    refine go h1 rfl rfl (q_bin ttOk rfl) rfl ?_
    refine xo (q_pick_t rfl h1 rfl) rfl ?_
    refine xm rfl rfl ?_
    refine evl_part rfl rfl (fun h2 => ?_) (fun h2 => ?_)
    · refine go h2 rfl rfl (q_fieldAddr ttOk rfl) rfl ?_
      refine go h2 rfl rfl (q_load ttOk rfl) rfl ?_
      refine go h2 rfl rfl (q_fieldAddr ttOk rfl) rfl ?_
      refine go h2 rfl rfl (q_load ttOk rfl) rfl ?_
      refine go h2 rfl rfl (q_bin ttOk rfl) rfl ?_
      refine xo (q_pick_t rfl h2 rfl) rfl ?_
      refine xm rfl rfl ?_
      refine evl_part rfl rfl (fun h3 => ?_) (fun h3 => ?_)
      · refine go h3 rfl rfl (q_fieldAddr ttOk rfl) rfl ?_
        refine go h3 rfl rfl (q_load ttOk rfl) rfl ?_
        refine go h3 rfl rfl (q_fieldAddr ttOk rfl) rfl ?_
        refine go h3 rfl rfl (q_load ttOk rfl) rfl ?_
        refine evl_callg rfl rfl h3 (nm := 29) (cf rfl) (c_SameSeen _ _) (rs_of rfl) rfl rfl rfl ?_
        refine xo (q_pick_t rfl h3 rfl) rfl ?_
        refine xs rfl rfl ?_
        refine nl ?_
        (repeat first | refine et ?_ | refine eb ?_)
        (repeat refine sq ?_)
        refine ev_ret ?_
        (repeat first | refine evr_then ?_ | refine evr_blk ?_)
        refine ret_pure' ttOk rfl rfl ?_
        refine congrArg bR (?_ : _ = _)
        simp_all [eqHd]
      · refine gn h3 rfl rfl rfl ?_
        refine gn h3 rfl rfl rfl ?_
        refine gn h3 rfl rfl rfl ?_
        refine gn h3 rfl rfl rfl ?_
        refine gn h3 rfl rfl rfl ?_
        refine xo (q_pick_f rfl h3 rfl) rfl ?_
        refine xs rfl rfl ?_
        refine nl ?_
        (repeat first | refine et ?_ | refine eb ?_)
        (repeat refine sq ?_)
        refine ev_ret ?_
        (repeat first | refine evr_then ?_ | refine evr_blk ?_)
        refine ret_pure' ttOk rfl rfl ?_
        refine congrArg bR (?_ : _ = _)
        simp_all [eqHd]
    · refine gn h2 rfl rfl rfl ?_
      refine gn h2 rfl rfl rfl ?_
      refine gn h2 rfl rfl rfl ?_
      refine gn h2 rfl rfl rfl ?_
      refine gn h2 rfl rfl rfl ?_
      refine xo (q_pick_f rfl h2 rfl) rfl ?_
      refine xm rfl rfl ?_
      refine gn rfl rfl rfl rfl ?_
      refine gn rfl rfl rfl rfl ?_
      refine gn rfl rfl rfl rfl ?_
      refine gn rfl rfl rfl rfl ?_
      refine gn rfl rfl rfl rfl ?_
      refine xo (q_pick_f rfl rfl rfl) rfl ?_
      refine xs rfl rfl ?_
      refine nl ?_
      (repeat first | refine et ?_ | refine eb ?_)
      (repeat refine sq ?_)
      refine ev_ret ?_
      (repeat first | refine evr_then ?_ | refine evr_blk ?_)
      refine ret_pure' ttOk rfl rfl ?_
      refine congrArg bR (?_ : _ = _)
      simp_all [eqHd]
  · refine gn h1 rfl rfl rfl ?_
    refine gn h1 rfl rfl rfl ?_
    refine gn h1 rfl rfl rfl ?_
    refine gn h1 rfl rfl rfl ?_
    refine gn h1 rfl rfl rfl ?_
    refine xo (q_pick_f rfl h1 rfl) rfl ?_
    refine xm rfl rfl ?_
    refine gn rfl rfl rfl rfl ?_
    refine gn rfl rfl rfl rfl ?_
    refine gn rfl rfl rfl rfl ?_
    refine gn rfl rfl rfl rfl ?_
    refine gn rfl rfl rfl rfl ?_
    refine xo (q_pick_f rfl rfl rfl) rfl ?_
    refine xm rfl rfl ?_
    refine gn rfl rfl rfl rfl ?_
    refine gn rfl rfl rfl rfl ?_
    refine gn rfl rfl rfl rfl ?_
    refine gn rfl rfl rfl rfl ?_
    refine gn rfl rfl rfl rfl ?_
    refine xo (q_pick_f rfl rfl rfl) rfl ?_
    refine xs rfl rfl ?_
    refine nl ?_
    (repeat first | refine et ?_ | refine eb ?_)
    (repeat refine sq ?_)
    refine ev_ret ?_
    (repeat first | refine evr_then ?_ | refine evr_blk ?_)
    refine ret_pure' ttOk rfl rfl ?_
    refine congrArg bR (?_ : _ = _)
    simp_all [eqHd]
theorem c_sameHead (x y : Head) : Pure Tryz.prog 160 [many (headC x), many (headC y)] (bR (eqHd x y)) := by
  refine pure_intro (N := 31) Tryz.func160 rfl rfl rfl rfl (fun H w => ?_)
  (repeat refine sq ?_)
  refine rg ?_
  refine evl_e (e_box rfl rfl rfl rfl) ?_
  refine evl_e (e_box rfl rfl rfl rfl) ?_
  refine xs rfl rfl ?_
  refine nl ?_
  (repeat first | refine et ?_ | refine eb ?_)
  (repeat refine sq ?_)
  refine rg ?_
  refine xf ttOk rfl rfl ?_
  refine xl ttOk rfl rfl ?_
  refine xf ttOk rfl rfl ?_
  refine xl ttOk rfl rfl ?_
  refine xb ttOk rfl rfl ?_
  refine xm rfl rfl ?_
  refine evl_part rfl rfl (fun h1 => ?_) (fun h1 => ?_)
  · refine go h1 rfl rfl (q_fieldAddr ttOk rfl) rfl ?_
    refine go h1 rfl rfl (q_load ttOk rfl) rfl ?_
    refine go h1 rfl rfl (q_fieldAddr ttOk rfl) rfl ?_
    refine go h1 rfl rfl (q_load ttOk rfl) rfl ?_
    refine go h1 rfl rfl (q_bin ttOk rfl) rfl ?_
    refine xo (q_pick_t rfl h1 rfl) rfl ?_
    refine xm rfl rfl ?_
    refine evl_part rfl rfl (fun h2 => ?_) (fun h2 => ?_)
    · refine go h2 rfl rfl (q_fieldAddr ttOk rfl) rfl ?_
      refine go h2 rfl rfl (q_load ttOk rfl) rfl ?_
      refine go h2 rfl rfl (q_fieldAddr ttOk rfl) rfl ?_
      refine go h2 rfl rfl (q_load ttOk rfl) rfl ?_
      refine go h2 rfl rfl (q_bin ttOk rfl) rfl ?_
      refine xo (q_pick_t rfl h2 rfl) rfl ?_
      refine xm rfl rfl ?_
      refine evl_part rfl rfl (fun h3 => ?_) (fun h3 => ?_)
      · refine go h3 rfl rfl (q_fieldAddr ttOk rfl) rfl ?_
        refine go h3 rfl rfl (q_load ttOk rfl) rfl ?_
        refine go h3 rfl rfl (q_fieldAddr ttOk rfl) rfl ?_
        refine go h3 rfl rfl (q_load ttOk rfl) rfl ?_
        refine evl_callg rfl rfl h3 (nm := 29) (cf rfl) (c_SameSeen' _ _) (rs_of rfl) rfl rfl rfl ?_
        refine xo (q_pick_t rfl h3 rfl) rfl ?_
        refine xs rfl rfl ?_
        refine nl ?_
        (repeat first | refine et ?_ | refine eb ?_)
        (repeat refine sq ?_)
        refine ev_ret ?_
        (repeat first | refine evr_then ?_ | refine evr_blk ?_)
        refine ret_pure' ttOk rfl rfl ?_
        refine congrArg bR (?_ : _ = _)
        simp_all [eqHd]
      · refine gn h3 rfl rfl rfl ?_
        refine gn h3 rfl rfl rfl ?_
        refine gn h3 rfl rfl rfl ?_
        refine gn h3 rfl rfl rfl ?_
        refine gn h3 rfl rfl rfl ?_
        refine xo (q_pick_f rfl h3 rfl) rfl ?_
        refine xs rfl rfl ?_
        refine nl ?_
        (repeat first | refine et ?_ | refine eb ?_)
        (repeat refine sq ?_)
        refine ev_ret ?_
        (repeat first | refine evr_then ?_ | refine evr_blk ?_)
        refine ret_pure' ttOk rfl rfl ?_
        refine congrArg bR (?_ : _ = _)
        simp_all [eqHd]
    · refine gn h2 rfl rfl rfl ?_
      refine gn h2 rfl rfl rfl ?_
      refine gn h2 rfl rfl rfl ?_
      refine gn h2 rfl rfl rfl ?_
      refine gn h2 rfl rfl rfl ?_
      refine xo (q_pick_f rfl h2 rfl) rfl ?_
      refine xm rfl rfl ?_
      refine gn rfl rfl rfl rfl ?_
      refine gn rfl rfl rfl rfl ?_
      refine gn rfl rfl rfl rfl ?_
      refine gn rfl rfl rfl rfl ?_
      refine gn rfl rfl rfl rfl ?_
      refine xo (q_pick_f rfl rfl rfl) rfl ?_
      refine xs rfl rfl ?_
      refine nl ?_
      (repeat first | refine et ?_ | refine eb ?_)
      (repeat refine sq ?_)
      refine ev_ret ?_
      (repeat first | refine evr_then ?_ | refine evr_blk ?_)
      refine ret_pure' ttOk rfl rfl ?_
      refine congrArg bR (?_ : _ = _)
      simp_all [eqHd]
  · refine gn h1 rfl rfl rfl ?_
    refine gn h1 rfl rfl rfl ?_
    refine gn h1 rfl rfl rfl ?_
    refine gn h1 rfl rfl rfl ?_
    refine gn h1 rfl rfl rfl ?_
    refine xo (q_pick_f rfl h1 rfl) rfl ?_
    refine xm rfl rfl ?_
    refine gn rfl rfl rfl rfl ?_
    refine gn rfl rfl rfl rfl ?_
    refine gn rfl rfl rfl rfl ?_
    refine gn rfl rfl rfl rfl ?_
    refine gn rfl rfl rfl rfl ?_
    refine xo (q_pick_f rfl rfl rfl) rfl ?_
    refine xm rfl rfl ?_
    refine gn rfl rfl rfl rfl ?_
    refine gn rfl rfl rfl rfl ?_
    refine gn rfl rfl rfl rfl ?_
    refine gn rfl rfl rfl rfl ?_
    refine gn rfl rfl rfl rfl ?_
    refine xo (q_pick_f rfl rfl rfl) rfl ?_
    refine xs rfl rfl ?_
    refine nl ?_
    (repeat first | refine et ?_ | refine eb ?_)
    (repeat refine sq ?_)
    refine ev_ret ?_
    (repeat first | refine evr_then ?_ | refine evr_blk ?_)
    refine ret_pure' ttOk rfl rfl ?_
    refine congrArg bR (?_ : _ = _)
    simp_all [eqHd]

end Go.Proofs.YtpbhcdgdabfhfaaGreat
