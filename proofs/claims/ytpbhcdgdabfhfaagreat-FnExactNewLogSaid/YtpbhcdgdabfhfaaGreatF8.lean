/- Walks of functions of the program, printed by a program of the prover. -/
import Derived.Test.YtpbhcdgdabfhfaaGreatF7
import Derived.Test.YtpbhcdgdabfhfaaGreatVG
namespace Go.Proofs.YtpbhcdgdabfhfaaGreat
open Go.ChangeShapes Go.WideShapes Go.ChangeAt Go.RowKit
set_option linter.unusedVariables false
set_option linter.unusedSimpArgs false
set_option maxHeartbeats 1000000
set_option maxRecDepth 100000
attribute [local irreducible] EvL Ev EvE Quiet Eff Pure RDk RDb RDo
def uns (o : Option (List Int)) : Option (List Int) := unsF (o.getD [])
def rightOf (a b : Option (List Int)) : List (List Int) := a.toList ++ match b with
  | none => []
  | some y => match a with
    | none => [y]
    | some x => if eqL x y then [] else [y]
def rightF (t : Two) (x : Int) : List (List Int) := if twoOk t && hasAt t.a x then rightOf (uns (readF t.a x)) (uns (readF t.b x)) else []
theorem right_no1 {t : Two} {x : Int} (h : twoOk t = false) : rightF t x = [] := by simp [rightF, h]
theorem right_no2 {t : Two} {x : Int} (h : hasAt t.a x = false) : rightF t x = [] := by simp [rightF, h]
theorem right_yes {t : Two} {x : Int} (h : twoOk t = true) (h2 : hasAt t.a x = true) : rightF t x = rightOf (uns (readF t.a x)) (uns (readF t.b x)) := by simp [rightF, h, h2]
theorem hands_disks : Hands Tryz.prog 183 4 [0, 1, 2, 3] := fun us h => by
  match us, h with
  | [x1, x2, x3, x4], _ => exact c_disks x1 x2 x3 x4
theorem hands_twoOf : Hands Tryz.prog 185 4 [0, 1, 2, 3] := fun us h => by
  match us, h with
  | [x1, x2, x3, x4], _ => exact c_twoOf x1 x2 x3 x4
theorem c_RightAt (t : Two) (x : Int) : Pure Tryz.prog 165 [many (twoC t), one (iC x)] [one' (rowsR (rightF t x))] := by
  refine pure_intro (N := 70) Tryz.func165 rfl rfl rfl rfl (fun H w => ?_)
  (repeat refine sq ?_)
  refine rg ?_
  refine evl_e (e_box rfl rfl rfl rfl) ?_
  refine xs rfl rfl ?_
  refine nl ?_
  (repeat first | refine et ?_ | refine eb ?_)
  (repeat refine sq ?_)
  refine rg ?_
  refine evl_e (e_lit ttOk rfl rfl rfl) ?_
  refine xs rfl rfl ?_
  refine nl ?_
  (repeat first | refine et ?_ | refine eb ?_)
  (repeat refine sq ?_)
  refine rg ?_
  refine xl ttOk rfl rfl ?_
  refine evl_call (nm := 16) (cf rfl) (c_TwoOk ⟨⟨_, _⟩, ⟨_, _⟩⟩) (rs_of rfl) rfl rfl rfl ?_
  refine xo (q_not rfl) rfl ?_
  refine xm rfl rfl ?_
  refine evl_partn rfl rfl (fun h1 => ?_) (fun h1 => ?_)
  · refine gn (nt h1) rfl rfl rfl ?_
    refine gn (nt h1) rfl rfl rfl ?_
    refine gn (nt h1) rfl rfl rfl ?_
    refine gn (nt h1) rfl rfl rfl ?_
    refine gn (nt h1) rfl rfl rfl ?_
    refine xo (q_pick_t rfl (nt h1) rfl) rfl ?_
    refine nl ?_
    (repeat first | refine et ?_ | refine eb ?_)
    (repeat refine sq ?_)
    refine ev_cond_kt rfl rfl ?_
    (repeat refine sq ?_)
    refine rg ?_
    refine xm rfl rfl ?_
    refine xs rfl rfl ?_
    refine nl ?_
    (repeat first | refine et ?_ | refine eb ?_)
    (repeat refine sq ?_)
    refine ev_ret ?_
    (repeat first | refine evr_then ?_ | refine evr_blk ?_)
    refine ret_pure' ttOk rfl rfl ?_
    first
    | (rw [right_no1 (by assumption)]; rfl)
    | (rw [right_no2 (by assumption)]; rfl)
    | (rw [right_yes (by assumption) (by assumption)]; simp only [rightOf, uns]; generalize unsF ((readF t.a x).getD []) = oa at *; generalize unsF ((readF t.b x).getD []) = ob at *; cases oa <;> cases ob <;> simp_all)
  · refine go (nf h1) rfl rfl (q_fieldAddr ttOk rfl) rfl ?_
    refine go (nf h1) rfl rfl (q_load ttOk rfl) rfl ?_
    refine gm (nf h1) rfl rfl rfl rfl ?_
    refine evl_callg rfl rfl (nf h1) (nm := 22) (cf rfl) (c_l3Has t.a _) (rs_of rfl) rfl rfl rfl ?_
    refine go (nf h1) rfl rfl (q_not rfl) rfl ?_
    refine xo (q_pick_f rfl (nf h1) rfl) rfl ?_
    refine nl ?_
    (repeat first | refine et ?_ | refine eb ?_)
    (repeat refine sq ?_)
    refine ev_cond_n rfl (fun h2 => ?_) (fun h2 => ?_)
    · (repeat refine sq ?_)
      refine rg ?_
      refine xm rfl rfl ?_
      refine xs rfl rfl ?_
      refine nl ?_
      (repeat first | refine et ?_ | refine eb ?_)
      (repeat refine sq ?_)
      refine ev_ret ?_
      (repeat first | refine evr_then ?_ | refine evr_blk ?_)
      refine ret_pure' ttOk rfl rfl ?_
      first
      | (rw [right_no1 (by assumption)]; rfl)
      | (rw [right_no2 (by assumption)]; rfl)
      | (rw [right_yes (by assumption) (by assumption)]; simp only [rightOf, uns]; generalize unsF ((readF t.a x).getD []) = oa at *; generalize unsF ((readF t.b x).getD []) = ob at *; cases oa <;> cases ob <;> simp_all)
    · (repeat refine sq ?_)
      refine ev_skip ?_
      (repeat first | refine et ?_ | refine eb ?_)
      (repeat refine sq ?_)
      refine rg ?_
      refine xf ttOk rfl rfl ?_
      refine xl ttOk rfl rfl ?_
      refine xm rfl rfl ?_
      first | refine evl_call (nm := 30) (cf rfl) (c_ReadAt t.a _) (rs_of rfl) rfl rfl rfl ?_ | refine evl_call (nm := 30) (cf rfl) (c_ReadAt t.b _) (rs_of rfl) rfl rfl rfl ?_
      refine xm rfl rfl ?_
      refine xo (q_ext rfl) rfl ?_
      refine xo (q_ext rfl) rfl ?_
      refine xs rfl rfl ?_
      refine xs rfl rfl ?_
      refine nl ?_
      (repeat first | refine et ?_ | refine eb ?_)
      (repeat refine sq ?_)
      refine rg ?_
      refine xf ttOk rfl rfl ?_
      refine xl ttOk rfl rfl ?_
      refine xm rfl rfl ?_
      first | refine evl_call (nm := 37) (cf rfl) (c_ReadAt t.a _) (rs_of rfl) rfl rfl rfl ?_ | refine evl_call (nm := 37) (cf rfl) (c_ReadAt t.b _) (rs_of rfl) rfl rfl rfl ?_
      refine xm rfl rfl ?_
      refine xo (q_ext rfl) rfl ?_
      refine xo (q_ext rfl) rfl ?_
      refine xs rfl rfl ?_
      refine xs rfl rfl ?_
      refine nl ?_
      (repeat first | refine et ?_ | refine eb ?_)
      (repeat refine sq ?_)
      refine rg ?_
      refine xm rfl rfl ?_
      refine evl_call (nm := 42) (cf rfl) (c_Unsummed _) (rs_of rfl) rfl rfl rfl ?_
      refine xm rfl rfl ?_
      refine xo (q_ext rfl) rfl ?_
      refine xo (q_ext rfl) rfl ?_
      refine xs rfl rfl ?_
      refine xs rfl rfl ?_
      refine nl ?_
      (repeat first | refine et ?_ | refine eb ?_)
      (repeat refine sq ?_)
      refine rg ?_
      refine xm rfl rfl ?_
      refine evl_call (nm := 47) (cf rfl) (c_Unsummed _) (rs_of rfl) rfl rfl rfl ?_
      refine xm rfl rfl ?_
      refine xo (q_ext rfl) rfl ?_
      refine xo (q_ext rfl) rfl ?_
      refine xs rfl rfl ?_
      refine xs rfl rfl ?_
      refine nl ?_
      (repeat first | refine et ?_ | refine eb ?_)
      (repeat refine sq ?_)
      refine rg ?_
      refine xm rfl rfl ?_
      refine nl ?_
      (repeat first | refine et ?_ | refine eb ?_)
      (repeat refine sq ?_)
      refine ev_cond rfl (fun h3 => ?_) (fun h3 => ?_)
      · (repeat refine sq ?_)
        refine rg ?_
        refine xm rfl rfl ?_
        refine xm rfl rfl ?_
        refine evl_e (e_lit1 ttOk rfl rfl rfl (s0 := 10) (i0 := 0) (j0 := 0) rfl rfl rfl) ?_
        refine evl_e (e_app1 ttOk rfl rfl rfl rfl rfl rfl rfl (by first | simp | decide) rfl rfl (s0 := 10) rfl) ?_
        refine xs rfl rfl ?_
        refine nl ?_
        (repeat first | refine et ?_ | refine eb ?_)
        (repeat refine sq ?_)
        refine rg ?_
        refine xm rfl rfl ?_
        refine xm rfl rfl ?_
        refine evl_part rfl rfl (fun h4 => ?_) (fun h4 => ?_)
        · refine gm h4 rfl rfl rfl rfl ?_
          refine gm h4 rfl rfl rfl rfl ?_
          refine gm h3 rfl rfl rfl rfl ?_
          refine gm h3 rfl rfl rfl rfl ?_
          refine evl_callg rfl rfl h3 (nm := 61) (cf rfl) (c_SameRow _ _) (rs_of rfl) rfl rfl rfl ?_
          refine go h4 rfl rfl (q_pick_t rfl h3 rfl) rfl ?_
          refine go h4 rfl rfl (q_not rfl) rfl ?_
          refine xo (q_pick_t rfl h4 rfl) rfl ?_
          refine nl ?_
          (repeat first | refine et ?_ | refine eb ?_)
          (repeat refine sq ?_)
          refine ev_cond_n rfl (fun h5 => ?_) (fun h5 => ?_)
          · (repeat refine sq ?_)
            refine rg ?_
            refine xm rfl rfl ?_
            refine xm rfl rfl ?_
            refine evl_e (e_lit ttOk rfl rfl rfl) ?_
            refine evl_e (e_app ttOk rfl rfl rfl rfl rfl rfl rfl (by first | (simp; done) | (simp; omega)) rfl rfl) ?_
            refine xs rfl rfl ?_
            refine nl ?_
            (repeat first | refine et ?_ | refine eb ?_)
            (repeat refine sq ?_)
            refine rg ?_
            refine xm rfl rfl ?_
            refine xs rfl rfl ?_
            refine nl ?_
            (repeat first | refine et ?_ | refine eb ?_)
            (repeat refine sq ?_)
            refine ev_ret ?_
            (repeat first | refine evr_then ?_ | refine evr_blk ?_)
            refine ret_pure' ttOk rfl rfl ?_
            first
            | (rw [right_no1 (by assumption)]; rfl)
            | (rw [right_no2 (by assumption)]; rfl)
            | (rw [right_yes (by assumption) (by assumption)]; simp only [rightOf, uns]; generalize unsF ((readF t.a x).getD []) = oa at *; generalize unsF ((readF t.b x).getD []) = ob at *; cases oa <;> cases ob <;> simp_all)
          · (repeat refine sq ?_)
            refine ev_skip ?_
            (repeat first | refine et ?_ | refine eb ?_)
            (repeat refine sq ?_)
            refine rg ?_
            refine xm rfl rfl ?_
            refine xs rfl rfl ?_
            refine nl ?_
            (repeat first | refine et ?_ | refine eb ?_)
            (repeat refine sq ?_)
            refine ev_ret ?_
            (repeat first | refine evr_then ?_ | refine evr_blk ?_)
            refine ret_pure' ttOk rfl rfl ?_
            first
            | (rw [right_no1 (by assumption)]; rfl)
            | (rw [right_no2 (by assumption)]; rfl)
            | (rw [right_yes (by assumption) (by assumption)]; simp only [rightOf, uns]; generalize unsF ((readF t.a x).getD []) = oa at *; generalize unsF ((readF t.b x).getD []) = ob at *; cases oa <;> cases ob <;> simp_all)
        · refine gn h4 rfl rfl rfl ?_
          refine gn h4 rfl rfl rfl ?_
          refine gu rfl rfl rfl ?_
          refine gu rfl rfl rfl ?_
          refine gu rfl rfl rfl ?_
          refine gn h4 rfl rfl rfl ?_
          refine gn h4 rfl rfl rfl ?_
          refine xo (q_pick_f rfl h4 rfl) rfl ?_
          refine nl ?_
          (repeat first | refine et ?_ | refine eb ?_)
          (repeat refine sq ?_)
          refine ev_cond_kf rfl rfl ?_
          (repeat refine sq ?_)
          refine ev_skip ?_
          (repeat first | refine et ?_ | refine eb ?_)
          (repeat refine sq ?_)
          refine rg ?_
          refine xm rfl rfl ?_
          refine xs rfl rfl ?_
          refine nl ?_
          (repeat first | refine et ?_ | refine eb ?_)
          (repeat refine sq ?_)
          refine ev_ret ?_
          (repeat first | refine evr_then ?_ | refine evr_blk ?_)
          refine ret_pure' ttOk rfl rfl ?_
          first
          | (rw [right_no1 (by assumption)]; rfl)
          | (rw [right_no2 (by assumption)]; rfl)
          | (rw [right_yes (by assumption) (by assumption)]; simp only [rightOf, uns]; generalize unsF ((readF t.a x).getD []) = oa at *; generalize unsF ((readF t.b x).getD []) = ob at *; cases oa <;> cases ob <;> simp_all)
      · (repeat refine sq ?_)
        refine ev_skip ?_
        (repeat first | refine et ?_ | refine eb ?_)
        (repeat refine sq ?_)
        refine rg ?_
        refine xm rfl rfl ?_
        refine xm rfl rfl ?_
        refine evl_part rfl rfl (fun h6 => ?_) (fun h6 => ?_)
        · refine gm h6 rfl rfl rfl rfl ?_
          refine gm h6 rfl rfl rfl rfl ?_
          refine gn h3 rfl rfl rfl ?_
          refine gn h3 rfl rfl rfl ?_
          refine gn h3 rfl rfl rfl ?_
          refine go h6 rfl rfl (q_pick_f rfl h3 rfl) rfl ?_
          refine go h6 rfl rfl (q_notL rfl) rfl ?_
          refine xo (q_pick_t rfl h6 rfl) rfl ?_
          refine nl ?_
          (repeat first | refine et ?_ | refine eb ?_)
          (repeat refine sq ?_)
          refine ev_cond_kt rfl rfl ?_
          (repeat refine sq ?_)
          refine rg ?_
          refine xm rfl rfl ?_
          refine xm rfl rfl ?_
          refine evl_e (e_lit ttOk rfl rfl rfl) ?_
          refine evl_e (e_app ttOk rfl rfl rfl rfl rfl rfl rfl (by first | (simp; done) | (simp; omega)) rfl rfl) ?_
          refine xs rfl rfl ?_
          refine nl ?_
          (repeat first | refine et ?_ | refine eb ?_)
          (repeat refine sq ?_)
          refine rg ?_
          refine xm rfl rfl ?_
          refine xs rfl rfl ?_
          refine nl ?_
          (repeat first | refine et ?_ | refine eb ?_)
          (repeat refine sq ?_)
          refine ev_ret ?_
          (repeat first | refine evr_then ?_ | refine evr_blk ?_)
          refine ret_pure' ttOk rfl rfl ?_
          first
          | (rw [right_no1 (by assumption)]; rfl)
          | (rw [right_no2 (by assumption)]; rfl)
          | (rw [right_yes (by assumption) (by assumption)]; simp only [rightOf, uns]; generalize unsF ((readF t.a x).getD []) = oa at *; generalize unsF ((readF t.b x).getD []) = ob at *; cases oa <;> cases ob <;> simp_all)
        · refine gn h6 rfl rfl rfl ?_
          refine gn h6 rfl rfl rfl ?_
          refine gu rfl rfl rfl ?_
          refine gu rfl rfl rfl ?_
          refine gu rfl rfl rfl ?_
          refine gn h6 rfl rfl rfl ?_
          refine gn h6 rfl rfl rfl ?_
          refine xo (q_pick_f rfl h6 rfl) rfl ?_
          refine nl ?_
          (repeat first | refine et ?_ | refine eb ?_)
          (repeat refine sq ?_)
          refine ev_cond_kf rfl rfl ?_
          (repeat refine sq ?_)
          refine ev_skip ?_
          (repeat first | refine et ?_ | refine eb ?_)
          (repeat refine sq ?_)
          refine rg ?_
          refine xm rfl rfl ?_
          refine xs rfl rfl ?_
          refine nl ?_
          (repeat first | refine et ?_ | refine eb ?_)
          (repeat refine sq ?_)
          refine ev_ret ?_
          (repeat first | refine evr_then ?_ | refine evr_blk ?_)
          refine ret_pure' ttOk rfl rfl ?_
          first
          | (rw [right_no1 (by assumption)]; rfl)
          | (rw [right_no2 (by assumption)]; rfl)
          | (rw [right_yes (by assumption) (by assumption)]; simp only [rightOf, uns]; generalize unsF ((readF t.a x).getD []) = oa at *; generalize unsF ((readF t.b x).getD []) = ob at *; cases oa <;> cases ob <;> simp_all)
def rightUp (t : Two) (x : Int) : Nat → List (List Int)
  | 0 => []
  | 1 => (uns (readF t.a x)).toList
  | _ => rightOf (uns (readF t.a x)) (uns (readF t.b x))
theorem right_arm {k : Nat} (hk : (k : Int) < 2) (t : Two) (x : Int) : k = 0 ∨ (k = 1 ∧ uns (readF t.a x) = none) ∨ (k = 1 ∧ ∃ ra, uns (readF t.a x) = some ra) := by
  rcases (by omega : k = 0 ∨ k = 1) with rfl | rfl
  · exact .inl rfl
  · cases h : uns (readF t.a x) with
    | none => exact .inr (.inl ⟨rfl, rfl⟩)
    | some ra => exact .inr (.inr ⟨rfl, ra, rfl⟩)
theorem c_RightAt' (t : Two) (x : Int) : Pure Tryz.prog 172 [many (twoC t), one (iC x)] [one' (rowsR (rightF t x))] := by
  refine pure_intro (N := 59) Tryz.func172 rfl rfl rfl rfl (fun H w => ?_)
  (repeat refine sq ?_)
  refine rg ?_
  refine evl_e (e_box rfl rfl rfl rfl) ?_
  refine xs rfl rfl ?_
  refine nl ?_
  (repeat first | refine et ?_ | refine eb ?_)
  (repeat refine sq ?_)
  refine rg ?_
  first | refine xo (q_load_pr ttOk rfl rfl rfl rfl rfl rfl rfl) rfl ?_ | refine xl ttOk rfl rfl ?_
  refine evl_call (nm := 13) (cf rfl) (c_TwoOk' ⟨⟨_, _⟩, ⟨_, _⟩⟩) (rs_of rfl) rfl rfl rfl ?_
  refine xo (q_not rfl) rfl ?_
  refine xm rfl rfl ?_
  refine evl_partn rfl rfl (fun h1 => ?_) (fun h1 => ?_)
  · refine gn (nt h1) rfl rfl rfl ?_
    refine gn (nt h1) rfl rfl rfl ?_
    refine gn (nt h1) rfl rfl rfl ?_
    refine gn (nt h1) rfl rfl rfl ?_
    refine gn (nt h1) rfl rfl rfl ?_
    refine xo (q_pick_t rfl (nt h1) rfl) rfl ?_
    refine nl ?_
    (repeat first | refine et ?_ | refine eb ?_)
    (repeat refine sq ?_)
    refine ev_cond_kt rfl rfl ?_
    (repeat refine sq ?_)
    refine rg ?_
    refine xs rfl rfl ?_
    refine nl ?_
    (repeat first | refine et ?_ | refine eb ?_)
    (repeat refine sq ?_)
    refine ev_ret ?_
    (repeat first | refine evr_then ?_ | refine evr_blk ?_)
    refine ret_pureN ttOk rfl rfl ?_
    rw [right_no1 (by assumption)]; simp [RpLe, L2, RcLe]
  · refine go (nf h1) rfl rfl (q_fieldAddr ttOk rfl) rfl ?_
    first | refine go (nf h1) rfl rfl (q_load_pr ttOk rfl rfl rfl rfl rfl rfl rfl) rfl ?_ | refine go (nf h1) rfl rfl (q_load ttOk rfl) rfl ?_
    refine gm (nf h1) rfl rfl rfl rfl ?_
    refine evl_callg rfl rfl (nf h1) (nm := 19) (cf rfl) (c_sectorOk t.a _) (rs_of rfl) rfl rfl rfl ?_
    refine go (nf h1) rfl rfl (q_not rfl) rfl ?_
    refine xo (q_pick_f rfl (nf h1) rfl) rfl ?_
    refine nl ?_
    (repeat first | refine et ?_ | refine eb ?_)
    (repeat refine sq ?_)
    refine ev_cond_n rfl (fun h2 => ?_) (fun h2 => ?_)
    · (repeat refine sq ?_)
      refine rg ?_
      refine xs rfl rfl ?_
      refine nl ?_
      (repeat first | refine et ?_ | refine eb ?_)
      (repeat refine sq ?_)
      refine ev_ret ?_
      (repeat first | refine evr_then ?_ | refine evr_blk ?_)
      refine ret_pureN ttOk rfl rfl ?_
      rw [right_no2 (by assumption)]; simp [RpLe, L2, RcLe]
    · (repeat refine sq ?_)
      refine ev_skip ?_
      (repeat first | refine et ?_ | refine eb ?_)
      (repeat refine sq ?_)
      refine rg ?_
      refine evl_e (e_lit ttOk rfl rfl rfl) ?_
      refine xs rfl rfl ?_
      refine nl ?_
      (repeat first | refine et ?_ | refine eb ?_)
      (repeat refine sq ?_)
      refine rg ?_
      first | refine xo (q_load_pr ttOk rfl rfl rfl rfl rfl rfl rfl) rfl ?_ | refine xl ttOk rfl rfl ?_
      refine evl_callv (cf rfl) hands_disks rfl rfl rfl rfl ?_
      refine xm rfl rfl ?_
      refine nl ?_
      (repeat first | refine et ?_ | refine eb ?_)
      (repeat refine sq ?_)
      refine ev_blk ?_
      (repeat refine sq ?_)
      refine ev_loop (fun k : Nat => (⟨[(25, iV k), (24, .p true [.c (rows t.a.kept), .c (writes t.a.wait), .c (rows t.b.kept), .c (writes t.b.wait)]), (1, iV x), (5, .p false [.rt 101])], [], [(101, 80, 1, ((rightUp t x k).map fun r => [ints r]))], []⟩ : St)) (fun k => k ≤ 2) (fun k => 2 - k) 0 [(101, 22)] (by simp) ⟨by (repeat first | exact trivial | refine ⟨rfl, ?_⟩), by (repeat first | exact trivial | refine ⟨rfl, ?_⟩), ⟨⟨_, rfl, by rfl⟩, trivial⟩, by (repeat first | exact trivial | refine ⟨⟨_, rfl, rfl⟩, ?_⟩), rfl⟩ ?_
      intro k hp
      have p0 := hp
      show Ev _ _ _ _ (⟨[(25, iV k), (24, .p true [.c (rows t.a.kept), .c (writes t.a.wait), .c (rows t.b.kept), .c (writes t.b.wait)]), (1, iV x), (5, .p false [.rt 101])], [], [(101, 80, 1, ((rightUp t x k).map fun r => [ints r]))], []⟩ : St)
      (repeat refine sq ?_)
      refine rg ?_
      refine xb ttOk rfl rfl ?_
      refine nl ?_
      (repeat first | refine et ?_ | refine eb ?_)
      (repeat refine sq ?_)
      refine ev_cond rfl (fun h3 => ?_) (fun h3 => ?_)
      · have d3 := of_decide_eq_true h3
        (repeat refine sq ?_)
        refine ev_skip ?_
        (repeat first | refine et ?_ | refine eb ?_)
        (repeat refine sq ?_)
        refine ev_blk ?_
        (repeat refine sq ?_)
        obtain rfl | ⟨rfl, hoa⟩ | ⟨rfl, ra, hoa⟩ := right_arm d3 t x
        · (repeat refine sq ?_)
          refine rg ?_
          first | refine xo (q_index 0 ttOk rfl rfl (by omega)) rfl ?_ | refine xo (q_index 1 ttOk rfl rfl (by omega)) rfl ?_
          refine evl_e (e_alloc ttOk rfl rfl rfl rfl) ?_
          refine xst ttOk rfl ?_ rfl
          refine nl ?_
          (repeat first | refine et ?_ | refine eb ?_)
          (repeat refine sq ?_)
          refine rg ?_
          first | refine xo (q_load_pr ttOk rfl rfl rfl rfl rfl rfl rfl) rfl ?_ | refine xl ttOk rfl rfl ?_
          refine xm rfl rfl ?_
          first | refine evl_call (nm := 31) (cf rfl) (c_ReadAt' t.a _) (rs_of rfl) rfl rfl rfl ?_ | refine evl_call (nm := 31) (cf rfl) (c_ReadAt' t.b _) (rs_of rfl) rfl rfl rfl ?_
          refine xm rfl rfl ?_
          refine xo (q_ext rfl) rfl ?_
          refine xo (q_ext rfl) rfl ?_
          refine xs rfl rfl ?_
          refine xs rfl rfl ?_
          refine nl ?_
          (repeat first | refine et ?_ | refine eb ?_)
          (repeat refine sq ?_)
          refine rg ?_
          refine xm rfl rfl ?_
          refine evl_call (nm := 36) (cf rfl) (c_Unsummed' _) (rs_of rfl) rfl rfl rfl ?_
          refine xm rfl rfl ?_
          refine xo (q_ext rfl) rfl ?_
          refine xo (q_ext rfl) rfl ?_
          refine xs rfl rfl ?_
          refine xs rfl rfl ?_
          refine nl ?_
          (repeat first | refine et ?_ | refine eb ?_)
          (repeat refine sq ?_)
          refine rg ?_
          refine xm rfl rfl ?_
          refine xm rfl rfl ?_
          refine evl_part rfl rfl (fun h4 => ?_) (fun h4 => ?_)
          · refine gm h4 rfl rfl rfl rfl ?_
            first | refine go h4 rfl rfl (q_len_rtm ttOk rfl rfl rfl) rfl ?_ | refine go h4 rfl rfl (q_len_rt ttOk rfl rfl rfl) rfl ?_
            refine go h4 rfl rfl (q_bin ttOk rfl) rfl ?_
            refine gm h4 rfl rfl rfl rfl ?_
            refine gn rfl rfl rfl rfl ?_
            refine gn rfl rfl rfl rfl ?_
            refine gn rfl rfl rfl rfl ?_
            refine gn rfl rfl rfl rfl ?_
            refine gn rfl rfl rfl rfl ?_
            refine gn rfl rfl rfl rfl ?_
            refine go h4 rfl rfl (q_pick_t rfl rfl rfl) rfl ?_
            refine xo (q_pick_t rfl h4 rfl) rfl ?_
            refine nl ?_
            (repeat first | refine et ?_ | refine eb ?_)
            (repeat refine sq ?_)
            refine ev_cond_kt rfl rfl ?_
            (repeat refine sq ?_)
            refine rg ?_
            refine xm rfl rfl ?_
            refine xm rfl rfl ?_
            refine evl_e (e_lit ttOk rfl rfl rfl) ?_
            refine evl_e (e_app ttOk rfl rfl rfl rfl rfl rfl rfl (by first | (simp; done) | (simp [rightUp]; done) | (simp; omega)) rfl rfl) ?_
            refine xs rfl rfl ?_
            refine nl ?_
            (repeat first | refine et ?_ | refine eb ?_)
            (repeat refine sq ?_)
            refine rg ?_
            refine xa rfl rfl rfl (by omega) rfl ?_
            refine xm rfl rfl ?_
            refine nl ?_
            (repeat first | refine et ?_ | refine eb ?_)
            (repeat first | refine et ?_ | refine eb ?_)
            refine eve_round (1) [(101, 56)] ?hp ⟨by (repeat first | exact trivial | refine ⟨rfl, ?_⟩), by (repeat first | exact trivial | refine ⟨rfl, ?_⟩), ⟨⟨_, rfl, by (first | rfl | (simp only [rightUp, rightOf, uns] at *; generalize unsF ((readF t.a x).getD []) = oa at *; generalize unsF ((readF t.b x).getD []) = ob at *; cases oa <;> cases ob <;> simp_all))⟩, trivial⟩, by (repeat first | exact trivial | refine ⟨⟨_, rfl, rfl⟩, ?_⟩), rfl⟩
            case hp => exact ⟨by omega, by omega⟩
          · refine gn h4 rfl rfl rfl ?_
            refine gn h4 rfl rfl rfl ?_
            refine gn h4 rfl rfl rfl ?_
            refine gn h4 rfl rfl rfl ?_
            refine gu rfl rfl rfl ?_
            refine gu rfl rfl rfl ?_
            refine gu rfl rfl rfl ?_
            refine gu rfl rfl rfl ?_
            refine gu rfl rfl rfl ?_
            refine gu rfl rfl rfl ?_
            refine gn h4 rfl rfl rfl ?_
            refine xo (q_pick_f rfl h4 rfl) rfl ?_
            refine nl ?_
            (repeat first | refine et ?_ | refine eb ?_)
            (repeat refine sq ?_)
            refine ev_cond_kf rfl rfl ?_
            (repeat refine sq ?_)
            refine ev_skip ?_
            (repeat first | refine et ?_ | refine eb ?_)
            (repeat refine sq ?_)
            refine rg ?_
            refine xa rfl rfl rfl (by omega) rfl ?_
            refine xm rfl rfl ?_
            refine nl ?_
            (repeat first | refine et ?_ | refine eb ?_)
            (repeat first | refine et ?_ | refine eb ?_)
            refine eve_round (1) [] ?hp ⟨by (repeat first | exact trivial | refine ⟨rfl, ?_⟩), by (repeat first | exact trivial | refine ⟨rfl, ?_⟩), ⟨⟨_, rfl, by (first | rfl | (simp only [rightUp, rightOf, uns] at *; generalize unsF ((readF t.a x).getD []) = oa at *; generalize unsF ((readF t.b x).getD []) = ob at *; cases oa <;> cases ob <;> simp_all))⟩, trivial⟩, by (repeat first | exact trivial | refine ⟨⟨_, rfl, rfl⟩, ?_⟩), rfl⟩
            case hp => exact ⟨by omega, by omega⟩
        · (repeat refine sq ?_)
          rw [show ((rightUp t x 1).map fun r => [ints r]) = [] by simp [rightUp, hoa]]
          refine rg ?_
          first | refine xo (q_index 0 ttOk rfl rfl (by omega)) rfl ?_ | refine xo (q_index 1 ttOk rfl rfl (by omega)) rfl ?_
          refine evl_e (e_alloc ttOk rfl rfl rfl rfl) ?_
          refine xst ttOk rfl ?_ rfl
          refine nl ?_
          (repeat first | refine et ?_ | refine eb ?_)
          (repeat refine sq ?_)
          refine rg ?_
          first | refine xo (q_load_pr ttOk rfl rfl rfl rfl rfl rfl rfl) rfl ?_ | refine xl ttOk rfl rfl ?_
          refine xm rfl rfl ?_
          first | refine evl_call (nm := 31) (cf rfl) (c_ReadAt' t.a _) (rs_of rfl) rfl rfl rfl ?_ | refine evl_call (nm := 31) (cf rfl) (c_ReadAt' t.b _) (rs_of rfl) rfl rfl rfl ?_
          refine xm rfl rfl ?_
          refine xo (q_ext rfl) rfl ?_
          refine xo (q_ext rfl) rfl ?_
          refine xs rfl rfl ?_
          refine xs rfl rfl ?_
          refine nl ?_
          (repeat first | refine et ?_ | refine eb ?_)
          (repeat refine sq ?_)
          refine rg ?_
          refine xm rfl rfl ?_
          refine evl_call (nm := 36) (cf rfl) (c_Unsummed' _) (rs_of rfl) rfl rfl rfl ?_
          refine xm rfl rfl ?_
          refine xo (q_ext rfl) rfl ?_
          refine xo (q_ext rfl) rfl ?_
          refine xs rfl rfl ?_
          refine xs rfl rfl ?_
          refine nl ?_
          (repeat first | refine et ?_ | refine eb ?_)
          (repeat refine sq ?_)
          refine rg ?_
          refine xm rfl rfl ?_
          refine xm rfl rfl ?_
          refine evl_part rfl rfl (fun h5 => ?_) (fun h5 => ?_)
          · refine gm h5 rfl rfl rfl rfl ?_
            first | refine go h5 rfl rfl (q_len_rtm ttOk rfl rfl rfl) rfl ?_ | refine go h5 rfl rfl (q_len_rt ttOk rfl rfl rfl) rfl ?_
            refine go h5 rfl rfl (q_bin ttOk rfl) rfl ?_
            refine gm h5 rfl rfl rfl rfl ?_
            refine gn rfl rfl rfl rfl ?_
            refine gn rfl rfl rfl rfl ?_
            refine gn rfl rfl rfl rfl ?_
            refine gn rfl rfl rfl rfl ?_
            refine gn rfl rfl rfl rfl ?_
            refine gn rfl rfl rfl rfl ?_
            refine go h5 rfl rfl (q_pick_t rfl rfl rfl) rfl ?_
            refine xo (q_pick_t rfl h5 rfl) rfl ?_
            refine nl ?_
            (repeat first | refine et ?_ | refine eb ?_)
            (repeat refine sq ?_)
            refine ev_cond_kt rfl rfl ?_
            (repeat refine sq ?_)
            refine rg ?_
            refine xm rfl rfl ?_
            refine xm rfl rfl ?_
            refine evl_e (e_lit ttOk rfl rfl rfl) ?_
            refine evl_e (e_app ttOk rfl rfl rfl rfl rfl rfl rfl (by first | (simp; done) | (simp [rightUp]; done) | (simp; omega)) rfl rfl) ?_
            refine xs rfl rfl ?_
            refine nl ?_
            (repeat first | refine et ?_ | refine eb ?_)
            (repeat refine sq ?_)
            refine rg ?_
            refine xa rfl rfl rfl (by omega) rfl ?_
            refine xm rfl rfl ?_
            refine nl ?_
            (repeat first | refine et ?_ | refine eb ?_)
            (repeat first | refine et ?_ | refine eb ?_)
            refine eve_round (2) [(101, 56)] ?hp ⟨by (repeat first | exact trivial | refine ⟨rfl, ?_⟩), by (repeat first | exact trivial | refine ⟨rfl, ?_⟩), ⟨⟨_, rfl, by (first | rfl | (simp only [rightUp, rightOf, uns] at *; generalize unsF ((readF t.a x).getD []) = oa at *; generalize unsF ((readF t.b x).getD []) = ob at *; cases oa <;> cases ob <;> simp_all))⟩, trivial⟩, by (repeat first | exact trivial | refine ⟨⟨_, rfl, rfl⟩, ?_⟩), rfl⟩
            case hp => exact ⟨by omega, by omega⟩
          · refine gn h5 rfl rfl rfl ?_
            refine gn h5 rfl rfl rfl ?_
            refine gn h5 rfl rfl rfl ?_
            refine gn h5 rfl rfl rfl ?_
            refine gu rfl rfl rfl ?_
            refine gu rfl rfl rfl ?_
            refine gu rfl rfl rfl ?_
            refine gu rfl rfl rfl ?_
            refine gu rfl rfl rfl ?_
            refine gu rfl rfl rfl ?_
            refine gn h5 rfl rfl rfl ?_
            refine xo (q_pick_f rfl h5 rfl) rfl ?_
            refine nl ?_
            (repeat first | refine et ?_ | refine eb ?_)
            (repeat refine sq ?_)
            refine ev_cond_kf rfl rfl ?_
            (repeat refine sq ?_)
            refine ev_skip ?_
            (repeat first | refine et ?_ | refine eb ?_)
            (repeat refine sq ?_)
            refine rg ?_
            refine xa rfl rfl rfl (by omega) rfl ?_
            refine xm rfl rfl ?_
            refine nl ?_
            (repeat first | refine et ?_ | refine eb ?_)
            (repeat first | refine et ?_ | refine eb ?_)
            refine eve_round (2) [] ?hp ⟨by (repeat first | exact trivial | refine ⟨rfl, ?_⟩), by (repeat first | exact trivial | refine ⟨rfl, ?_⟩), ⟨⟨_, rfl, by (first | rfl | (simp only [rightUp, rightOf, uns] at *; generalize unsF ((readF t.a x).getD []) = oa at *; generalize unsF ((readF t.b x).getD []) = ob at *; cases oa <;> cases ob <;> simp_all))⟩, trivial⟩, by (repeat first | exact trivial | refine ⟨⟨_, rfl, rfl⟩, ?_⟩), rfl⟩
            case hp => exact ⟨by omega, by omega⟩
        · (repeat refine sq ?_)
          rw [show ((rightUp t x 1).map fun r => [ints r]) = [[ints ra]] by simp [rightUp, hoa]]
          refine rg ?_
          first | refine xo (q_index 0 ttOk rfl rfl (by omega)) rfl ?_ | refine xo (q_index 1 ttOk rfl rfl (by omega)) rfl ?_
          refine evl_e (e_alloc ttOk rfl rfl rfl rfl) ?_
          refine xst ttOk rfl ?_ rfl
          refine nl ?_
          (repeat first | refine et ?_ | refine eb ?_)
          (repeat refine sq ?_)
          refine rg ?_
          first | refine xo (q_load_pr ttOk rfl rfl rfl rfl rfl rfl rfl) rfl ?_ | refine xl ttOk rfl rfl ?_
          refine xm rfl rfl ?_
          first | refine evl_call (nm := 31) (cf rfl) (c_ReadAt' t.a _) (rs_of rfl) rfl rfl rfl ?_ | refine evl_call (nm := 31) (cf rfl) (c_ReadAt' t.b _) (rs_of rfl) rfl rfl rfl ?_
          refine xm rfl rfl ?_
          refine xo (q_ext rfl) rfl ?_
          refine xo (q_ext rfl) rfl ?_
          refine xs rfl rfl ?_
          refine xs rfl rfl ?_
          refine nl ?_
          (repeat first | refine et ?_ | refine eb ?_)
          (repeat refine sq ?_)
          refine rg ?_
          refine xm rfl rfl ?_
          refine evl_call (nm := 36) (cf rfl) (c_Unsummed' _) (rs_of rfl) rfl rfl rfl ?_
          refine xm rfl rfl ?_
          refine xo (q_ext rfl) rfl ?_
          refine xo (q_ext rfl) rfl ?_
          refine xs rfl rfl ?_
          refine xs rfl rfl ?_
          refine nl ?_
          (repeat first | refine et ?_ | refine eb ?_)
          (repeat refine sq ?_)
          refine rg ?_
          refine xm rfl rfl ?_
          refine xm rfl rfl ?_
          refine evl_part rfl rfl (fun h6 => ?_) (fun h6 => ?_)
          · refine gm h6 rfl rfl rfl rfl ?_
            first | refine go h6 rfl rfl (q_len_rtm ttOk rfl rfl rfl) rfl ?_ | refine go h6 rfl rfl (q_len_rt ttOk rfl rfl rfl) rfl ?_
            refine go h6 rfl rfl (q_bin ttOk rfl) rfl ?_
            refine gm h6 rfl rfl rfl rfl ?_
            refine gm rfl rfl rfl rfl rfl ?_
            refine go rfl rfl rfl (q_ix_rt (m := 0) ttOk rfl rfl rfl rfl rfl rfl (by simp)) rfl ?_
            first | refine go rfl rfl rfl (q_load_pr ttOk rfl rfl rfl rfl rfl rfl rfl) rfl ?_ | refine go rfl rfl rfl (q_load ttOk rfl) rfl ?_
            refine gm rfl rfl rfl rfl rfl ?_
            refine evl_callg rfl rfl rfl (nm := 49) (cf rfl) (c_SameRow' _ _) (rs_of rfl) rfl rfl rfl ?_
            refine go rfl rfl rfl (q_not rfl) rfl ?_
            refine go h6 rfl rfl (q_pick_f rfl rfl rfl) rfl ?_
            refine xo (q_pick_t rfl h6 rfl) rfl ?_
            refine nl ?_
            (repeat first | refine et ?_ | refine eb ?_)
            (repeat refine sq ?_)
            refine ev_cond_n rfl (fun h7 => ?_) (fun h7 => ?_)
            · (repeat refine sq ?_)
              refine rg ?_
              refine xm rfl rfl ?_
              refine xm rfl rfl ?_
              refine evl_e (e_lit ttOk rfl rfl rfl) ?_
              refine evl_e (e_app ttOk rfl rfl rfl rfl rfl rfl rfl (by first | (simp; done) | (simp [rightUp]; done) | (simp; omega)) rfl rfl) ?_
              refine xs rfl rfl ?_
              refine nl ?_
              (repeat first | refine et ?_ | refine eb ?_)
              (repeat refine sq ?_)
              refine rg ?_
              refine xa rfl rfl rfl (by omega) rfl ?_
              refine xm rfl rfl ?_
              refine nl ?_
              (repeat first | refine et ?_ | refine eb ?_)
              (repeat first | refine et ?_ | refine eb ?_)
              refine eve_round (2) [(101, 56)] ?hp ⟨by (repeat first | exact trivial | refine ⟨rfl, ?_⟩), by (repeat first | exact trivial | refine ⟨rfl, ?_⟩), ⟨⟨_, rfl, by (first | rfl | (simp only [rightUp, rightOf, uns] at *; generalize unsF ((readF t.a x).getD []) = oa at *; generalize unsF ((readF t.b x).getD []) = ob at *; cases oa <;> cases ob <;> simp_all))⟩, trivial⟩, by (repeat first | exact trivial | refine ⟨⟨_, rfl, rfl⟩, ?_⟩), rfl⟩
              case hp => exact ⟨by omega, by omega⟩
            · (repeat refine sq ?_)
              refine ev_skip ?_
              (repeat first | refine et ?_ | refine eb ?_)
              (repeat refine sq ?_)
              refine rg ?_
              refine xa rfl rfl rfl (by omega) rfl ?_
              refine xm rfl rfl ?_
              refine nl ?_
              (repeat first | refine et ?_ | refine eb ?_)
              (repeat first | refine et ?_ | refine eb ?_)
              refine eve_round (2) [] ?hp ⟨by (repeat first | exact trivial | refine ⟨rfl, ?_⟩), by (repeat first | exact trivial | refine ⟨rfl, ?_⟩), ⟨⟨_, rfl, by (first | rfl | (simp only [rightUp, rightOf, uns] at *; generalize unsF ((readF t.a x).getD []) = oa at *; generalize unsF ((readF t.b x).getD []) = ob at *; cases oa <;> cases ob <;> simp_all))⟩, trivial⟩, by (repeat first | exact trivial | refine ⟨⟨_, rfl, rfl⟩, ?_⟩), rfl⟩
              case hp => exact ⟨by omega, by omega⟩
          · refine gn h6 rfl rfl rfl ?_
            refine gn h6 rfl rfl rfl ?_
            refine gn h6 rfl rfl rfl ?_
            refine gn h6 rfl rfl rfl ?_
            refine gu rfl rfl rfl ?_
            refine gu rfl rfl rfl ?_
            refine gu rfl rfl rfl ?_
            refine gu rfl rfl rfl ?_
            refine gu rfl rfl rfl ?_
            refine gu rfl rfl rfl ?_
            refine gn h6 rfl rfl rfl ?_
            refine xo (q_pick_f rfl h6 rfl) rfl ?_
            refine nl ?_
            (repeat first | refine et ?_ | refine eb ?_)
            (repeat refine sq ?_)
            refine ev_cond_kf rfl rfl ?_
            (repeat refine sq ?_)
            refine ev_skip ?_
            (repeat first | refine et ?_ | refine eb ?_)
            (repeat refine sq ?_)
            refine rg ?_
            refine xa rfl rfl rfl (by omega) rfl ?_
            refine xm rfl rfl ?_
            refine nl ?_
            (repeat first | refine et ?_ | refine eb ?_)
            (repeat first | refine et ?_ | refine eb ?_)
            refine eve_round (2) [] ?hp ⟨by (repeat first | exact trivial | refine ⟨rfl, ?_⟩), by (repeat first | exact trivial | refine ⟨rfl, ?_⟩), ⟨⟨_, rfl, by (first | rfl | (simp only [rightUp, rightOf, uns] at *; generalize unsF ((readF t.a x).getD []) = oa at *; generalize unsF ((readF t.b x).getD []) = ob at *; cases oa <;> cases ob <;> simp_all))⟩, trivial⟩, by (repeat first | exact trivial | refine ⟨⟨_, rfl, rfl⟩, ?_⟩), rfl⟩
            case hp => exact ⟨by omega, by omega⟩
      · have d3 := of_decide_eq_false h3
        (repeat refine sq ?_)
        refine ev_exit ?_
        (repeat first | refine evx_then ?_ | refine evx_hit ?_ | refine evx_miss rfl ?_)
        (repeat first | refine et ?_ | refine eb ?_)
        (repeat refine sq ?_)
        refine rg ?_
        refine xm rfl rfl ?_
        refine xs rfl rfl ?_
        refine nl ?_
        (repeat first | refine et ?_ | refine eb ?_)
        (repeat refine sq ?_)
        refine ev_ret ?_
        (repeat first | refine evr_then ?_ | refine evr_blk ?_)
        refine ret_pure' ttOk rfl rfl ?_
        obtain rfl : k = 2 := by omega
        rw [right_yes (by assumption) (by assumption)]; rfl

end Go.Proofs.YtpbhcdgdabfhfaaGreat
