/- Walks of functions of the program, printed by a program of the prover. -/
import Derived.Test.YtahkjonokeifmaaKeF7
import Derived.Test.YtahkjonokeifmaaKeVN
namespace Go.Proofs.Ytahkjonokeifmaa
open Go.ChangeShapes Go.WideShapes Go.ChangeAt Go.RowKit
set_option linter.unusedVariables false
set_option linter.unusedSimpArgs false
set_option maxHeartbeats 1000000
set_option maxRecDepth 100000
attribute [local irreducible] EvL Ev EvE Quiet Eff Pure RDk RDb RDo
def uns (o : Option (List Int)) : Option (List Int) := unsF (o.getD [])
def rightOf (a b : Option (List Int)) : List (List Int) := a.toList ++ match b with
 | none => []
 | some y => match a with
  | none => [y]
  | some x => if eqL x y then [] else [y]
def rightF (t : Two) (x : Int) : List (List Int) := if twoOk t && hasAt t.a x then rightOf (uns (readF t.a x)) (uns (readF t.b x)) else []
theorem right_no1 {t : Two} {x : Int} (h : twoOk t = false) : rightF t x = [] := by simp [rightF, h]
theorem right_no2 {t : Two} {x : Int} (h : hasAt t.a x = false) : rightF t x = [] := by simp [rightF, h]
theorem right_yes {t : Two} {x : Int} (h : twoOk t = true) (h2 : hasAt t.a x = true) : rightF t x = rightOf (uns (readF t.a x)) (uns (readF t.b x)) := by simp [rightF, h, h2]
theorem hands_disks : Hands Try.prog 25 4 [0, 1, 2, 3] := fun us h => by
 match us, h with
 | [x1, x2, x3, x4], _ => exact c_disks x1 x2 x3 x4
theorem hands_twoOf : Hands Try.prog 27 4 [0, 1, 2, 3] := fun us h => by
 match us, h with
 | [x1, x2, x3, x4], _ => exact c_twoOf x1 x2 x3 x4
def rightUp (t : Two) (x : Int) : Nat → List (List Int)
 | 0 => []
 | 1 => (uns (readF t.a x)).toList
 | _ => rightOf (uns (readF t.a x)) (uns (readF t.b x))
theorem right_arm {k : Nat} (hk : (k : Int) < 2) (t : Two) (x : Int) : k = 0 ∨ (k = 1 ∧ uns (readF t.a x) = none) ∨ (k = 1 ∧ ∃ ra, uns (readF t.a x) = some ra) := by
 rcases (by omega : k = 0 ∨ k = 1) with rfl | rfl
 ·exact .inl rfl
 ·cases h : uns (readF t.a x) with
  | none => exact .inr (.inl ⟨rfl, rfl⟩)
  | some ra => exact .inr (.inr ⟨rfl, ra, rfl⟩)
theorem c_RightAt' (t : Two) (x : Int) : Pure Try.prog 54 [many (twoC t), one (iC x)] [one' (rowsR (rightF t x))] := by
 refine pure_intro (N := 59) Try.func54 rfl rfl rfl rfl (fun H w => ?_)
 refine sq (rg (evl_e (e_box rfl rfl rfl rfl) (xs rfl rfl (nl (et (sq (sq (rg ?_))))))))
 first | refine xo (q_load_pr ttOk rfl rfl rfl rfl rfl rfl rfl) rfl ?_ | refine xl ttOk rfl rfl ?_
 refine evl_call (nm := 13) (cf rfl) (c_TwoOk' ⟨⟨_, _⟩, ⟨_, _⟩⟩) (rs_of rfl) rfl rfl rfl (xo (q_not rfl) rfl (xm rfl rfl (evl_partn rfl rfl (fun h1 => ?_) (fun h1 => ?_))))
 ·refine gn (nt h1) rfl rfl rfl (gn (nt h1) rfl rfl rfl (gn (nt h1) rfl rfl rfl (gn (nt h1) rfl rfl rfl (gn (nt h1) rfl rfl rfl (xo (q_pick_t rfl (nt h1) rfl) rfl (nl (et (ev_cond_kt rfl rfl (sq (rg (xs rfl rfl (nl (et (ev_ret (evr_then (ret_pureN ttOk rfl rfl ?_))))))))))))))))
  rw [right_no1 ‹_›]; simp [RpLe, L2, RcLe]
 ·refine go (nf h1) rfl rfl (q_fieldAddr ttOk rfl) rfl ?_
  first | refine go (nf h1) rfl rfl (q_load_pr ttOk rfl rfl rfl rfl rfl rfl rfl) rfl ?_ | refine go (nf h1) rfl rfl (q_load ttOk rfl) rfl ?_
  refine gm (nf h1) rfl rfl rfl rfl (evl_callg rfl rfl (nf h1) (nm := 19) (cf rfl) (c_sectorOk t.a _) (rs_of rfl) rfl rfl rfl (go (nf h1) rfl rfl (q_not rfl) rfl (xo (q_pick_f rfl (nf h1) rfl) rfl (nl (et (ev_cond_n rfl (fun h2 => ?_) (fun h2 => ?_)))))))
  ·refine sq (rg (xs rfl rfl (nl (et (ev_ret (evr_then (ret_pureN ttOk rfl rfl ?_)))))))
   rw [right_no2 ‹_›]; simp [RpLe, L2, RcLe]
  ·refine ev_skip (et (sq (rg (evl_e (e_lit ttOk rfl rfl rfl) (xs rfl rfl (nl (et (sq (sq (rg ?_))))))))))
   first | refine xo (q_load_pr ttOk rfl rfl rfl rfl rfl rfl rfl) rfl ?_ | refine xl ttOk rfl rfl ?_
   refine evl_callv (cf rfl) hands_disks rfl rfl rfl rfl (xm rfl rfl (nl (et (ev_blk (ev_loop (fun k : Nat => (⟨[(25, iV k), (24, .p true [.c (rows t.a.kept), .c (writes t.a.wait), .c (rows t.b.kept), .c (writes t.b.wait)]), (1, iV x), (5, .p false [.rt 101])], [], [(101, 39, 1, ((rightUp t x k).map fun r => [ints r]))], []⟩ : St)) (fun k => k ≤ 2) (fun k => 2 - k) 0 [(101, 22)] (by simp) ⟨trf, trf, ⟨⟨_, rfl, by rfl⟩, trivial⟩, tre, rfl⟩ ?_)))))
   intro k hp
   have p0 := hp
   show Ev _ _ _ _ (⟨[(25, iV k), (24, .p true [.c (rows t.a.kept), .c (writes t.a.wait), .c (rows t.b.kept), .c (writes t.b.wait)]), (1, iV x), (5, .p false [.rt 101])], [], [(101, 39, 1, ((rightUp t x k).map fun r => [ints r]))], []⟩ : St)
   refine sq (rg (xb ttOk rfl rfl (nl (et (sq (ev_cond rfl (fun h3 => ?_) (fun h3 => ?_)))))))
   ·have d3 := of_decide_eq_true h3
    refine ev_skip (et (sq (ev_blk ?_)))
    obtain rfl | ⟨rfl, hoa⟩ | ⟨rfl, ra, hoa⟩ := right_arm d3 t x
    ·refine sq (rg ?_)
     first | refine xo (q_index 0 ttOk rfl rfl om) rfl ?_ | refine xo (q_index 1 ttOk rfl rfl om) rfl ?_
     refine evl_e (e_alloc ttOk rfl rfl rfl rfl) (xst ttOk rfl rfl (nl (et (sq (rg ?_)))))
     first | refine xo (q_load_pr ttOk rfl rfl rfl rfl rfl rfl rfl) rfl ?_ | refine xl ttOk rfl rfl ?_
     refine xm rfl rfl ?_
     first | refine evl_call (nm := 31) (cf rfl) (c_ReadAt' t.a _) (rs_of rfl) rfl rfl rfl ?_ | refine evl_call (nm := 31) (cf rfl) (c_ReadAt' t.b _) (rs_of rfl) rfl rfl rfl ?_
     refine xm rfl rfl (xo (q_ext rfl) rfl (xo (q_ext rfl) rfl (xs rfl rfl (xs rfl rfl (nl (et (sq (rg (xm rfl rfl (evl_call (nm := 36) (cf rfl) (c_Unsummed' _) (rs_of rfl) rfl rfl rfl (xm rfl rfl (xo (q_ext rfl) rfl (xo (q_ext rfl) rfl (xs rfl rfl (xs rfl rfl (nl (et (sq (rg (xm rfl rfl (xm rfl rfl (evl_part rfl rfl (fun h4 => ?_) (fun h4 => ?_)))))))))))))))))))))))
     ·refine gm h4 rfl rfl rfl rfl ?_
      first | refine go h4 rfl rfl (q_len_rtm ttOk rfl rfl rfl) rfl ?_ | refine go h4 rfl rfl (q_len_rt ttOk rfl rfl rfl) rfl ?_
      refine go h4 rfl rfl (q_bin ttOk rfl) rfl (gm h4 rfl rfl rfl rfl (gn rfl rfl rfl rfl (gn rfl rfl rfl rfl (gn rfl rfl rfl rfl (gn rfl rfl rfl rfl (gn rfl rfl rfl rfl (gn rfl rfl rfl rfl (go h4 rfl rfl (q_pick_t rfl rfl rfl) rfl (xo (q_pick_t rfl h4 rfl) rfl (nl (et (ev_cond_kt rfl rfl (rg (xm rfl rfl (xm rfl rfl (evl_e (e_lit ttOk rfl rfl rfl) (evl_e (e_app ttOk rfl rfl rfl rfl rfl rfl rfl (by first | (simp; done) | (simp [rightUp]; done) | (simp; omega)) rfl rfl) (xs rfl rfl (nl (eb (et (rg (xa rfl rfl rfl om rfl (xm rfl rfl (nl (eve_round (1) [(101, 56)] ?hp ⟨trf, trf, ⟨⟨_, rfl, by (first | rfl | (simp only [rightUp, rightOf, uns] at *; generalize unsF ((readF t.a x).getD []) = oa at *; generalize unsF ((readF t.b x).getD []) = ob at *; cases oa <;> cases ob <;> simp_all))⟩, trivial⟩, tre, rfl⟩))))))))))))))))))))))))))
      case hp => exact ⟨by omega, by omega⟩
     ·refine gn h4 rfl rfl rfl (gn h4 rfl rfl rfl (gn h4 rfl rfl rfl (gn h4 rfl rfl rfl (gu rfl rfl rfl (gu rfl rfl rfl (gu rfl rfl rfl (gu rfl rfl rfl (gu rfl rfl rfl (gu rfl rfl rfl (gn h4 rfl rfl rfl (xo (q_pick_f rfl h4 rfl) rfl (nl (et (ev_cond_kf rfl rfl (ev_skip (eb (et (rg (xa rfl rfl rfl om rfl (xm rfl rfl (nl (eve_round (1) [] ?hp ⟨trf, trf, ⟨⟨_, rfl, by (first | rfl | (simp only [rightUp, rightOf, uns] at *; generalize unsF ((readF t.a x).getD []) = oa at *; generalize unsF ((readF t.b x).getD []) = ob at *; cases oa <;> cases ob <;> simp_all))⟩, trivial⟩, tre, rfl⟩))))))))))))))))))))))
      case hp => exact ⟨by omega, by omega⟩
    ·refine sq ?_
     rw [show ((rightUp t x 1).map fun r => [ints r]) = [] by simp [rightUp, hoa]]
     refine rg ?_
     first | refine xo (q_index 0 ttOk rfl rfl om) rfl ?_ | refine xo (q_index 1 ttOk rfl rfl om) rfl ?_
     refine evl_e (e_alloc ttOk rfl rfl rfl rfl) (xst ttOk rfl rfl (nl (et (sq (rg ?_)))))
     first | refine xo (q_load_pr ttOk rfl rfl rfl rfl rfl rfl rfl) rfl ?_ | refine xl ttOk rfl rfl ?_
     refine xm rfl rfl ?_
     first | refine evl_call (nm := 31) (cf rfl) (c_ReadAt' t.a _) (rs_of rfl) rfl rfl rfl ?_ | refine evl_call (nm := 31) (cf rfl) (c_ReadAt' t.b _) (rs_of rfl) rfl rfl rfl ?_
     refine xm rfl rfl (xo (q_ext rfl) rfl (xo (q_ext rfl) rfl (xs rfl rfl (xs rfl rfl (nl (et (sq (rg (xm rfl rfl (evl_call (nm := 36) (cf rfl) (c_Unsummed' _) (rs_of rfl) rfl rfl rfl (xm rfl rfl (xo (q_ext rfl) rfl (xo (q_ext rfl) rfl (xs rfl rfl (xs rfl rfl (nl (et (sq (rg (xm rfl rfl (xm rfl rfl (evl_part rfl rfl (fun h5 => ?_) (fun h5 => ?_)))))))))))))))))))))))
     ·refine gm h5 rfl rfl rfl rfl ?_
      first | refine go h5 rfl rfl (q_len_rtm ttOk rfl rfl rfl) rfl ?_ | refine go h5 rfl rfl (q_len_rt ttOk rfl rfl rfl) rfl ?_
      refine go h5 rfl rfl (q_bin ttOk rfl) rfl (gm h5 rfl rfl rfl rfl (gn rfl rfl rfl rfl (gn rfl rfl rfl rfl (gn rfl rfl rfl rfl (gn rfl rfl rfl rfl (gn rfl rfl rfl rfl (gn rfl rfl rfl rfl (go h5 rfl rfl (q_pick_t rfl rfl rfl) rfl (xo (q_pick_t rfl h5 rfl) rfl (nl (et (ev_cond_kt rfl rfl (rg (xm rfl rfl (xm rfl rfl (evl_e (e_lit ttOk rfl rfl rfl) (evl_e (e_app ttOk rfl rfl rfl rfl rfl rfl rfl (by first | (simp; done) | (simp [rightUp]; done) | (simp; omega)) rfl rfl) (xs rfl rfl (nl (eb (et (rg (xa rfl rfl rfl om rfl (xm rfl rfl (nl (eve_round (2) [(101, 56)] ?hp ⟨trf, trf, ⟨⟨_, rfl, by (first | rfl | (simp only [rightUp, rightOf, uns] at *; generalize unsF ((readF t.a x).getD []) = oa at *; generalize unsF ((readF t.b x).getD []) = ob at *; cases oa <;> cases ob <;> simp_all))⟩, trivial⟩, tre, rfl⟩))))))))))))))))))))))))))
      case hp => exact ⟨by omega, by omega⟩
     ·refine gn h5 rfl rfl rfl (gn h5 rfl rfl rfl (gn h5 rfl rfl rfl (gn h5 rfl rfl rfl (gu rfl rfl rfl (gu rfl rfl rfl (gu rfl rfl rfl (gu rfl rfl rfl (gu rfl rfl rfl (gu rfl rfl rfl (gn h5 rfl rfl rfl (xo (q_pick_f rfl h5 rfl) rfl (nl (et (ev_cond_kf rfl rfl (ev_skip (eb (et (rg (xa rfl rfl rfl om rfl (xm rfl rfl (nl (eve_round (2) [] ?hp ⟨trf, trf, ⟨⟨_, rfl, by (first | rfl | (simp only [rightUp, rightOf, uns] at *; generalize unsF ((readF t.a x).getD []) = oa at *; generalize unsF ((readF t.b x).getD []) = ob at *; cases oa <;> cases ob <;> simp_all))⟩, trivial⟩, tre, rfl⟩))))))))))))))))))))))
      case hp => exact ⟨by omega, by omega⟩
    ·refine sq ?_
     rw [show ((rightUp t x 1).map fun r => [ints r]) = [[ints ra]] by simp [rightUp, hoa]]
     refine rg ?_
     first | refine xo (q_index 0 ttOk rfl rfl om) rfl ?_ | refine xo (q_index 1 ttOk rfl rfl om) rfl ?_
     refine evl_e (e_alloc ttOk rfl rfl rfl rfl) (xst ttOk rfl rfl (nl (et (sq (rg ?_)))))
     first | refine xo (q_load_pr ttOk rfl rfl rfl rfl rfl rfl rfl) rfl ?_ | refine xl ttOk rfl rfl ?_
     refine xm rfl rfl ?_
     first | refine evl_call (nm := 31) (cf rfl) (c_ReadAt' t.a _) (rs_of rfl) rfl rfl rfl ?_ | refine evl_call (nm := 31) (cf rfl) (c_ReadAt' t.b _) (rs_of rfl) rfl rfl rfl ?_
     refine xm rfl rfl (xo (q_ext rfl) rfl (xo (q_ext rfl) rfl (xs rfl rfl (xs rfl rfl (nl (et (sq (rg (xm rfl rfl (evl_call (nm := 36) (cf rfl) (c_Unsummed' _) (rs_of rfl) rfl rfl rfl (xm rfl rfl (xo (q_ext rfl) rfl (xo (q_ext rfl) rfl (xs rfl rfl (xs rfl rfl (nl (et (sq (rg (xm rfl rfl (xm rfl rfl (evl_part rfl rfl (fun h6 => ?_) (fun h6 => ?_)))))))))))))))))))))))
     ·refine gm h6 rfl rfl rfl rfl ?_
      first | refine go h6 rfl rfl (q_len_rtm ttOk rfl rfl rfl) rfl ?_ | refine go h6 rfl rfl (q_len_rt ttOk rfl rfl rfl) rfl ?_
      refine go h6 rfl rfl (q_bin ttOk rfl) rfl (gm h6 rfl rfl rfl rfl (gm rfl rfl rfl rfl rfl (go rfl rfl rfl (q_ix_rt (m := 0) ttOk rfl rfl rfl rfl rfl rfl (by simp)) rfl ?_)))
      first | refine go rfl rfl rfl (q_load_pr ttOk rfl rfl rfl rfl rfl rfl rfl) rfl ?_ | refine go rfl rfl rfl (q_load ttOk rfl) rfl ?_
      refine gm rfl rfl rfl rfl rfl (evl_callg rfl rfl rfl (nm := 49) (cf rfl) (c_SameRow' _ _) (rs_of rfl) rfl rfl rfl (go rfl rfl rfl (q_not rfl) rfl (go h6 rfl rfl (q_pick_f rfl rfl rfl) rfl (xo (q_pick_t rfl h6 rfl) rfl (nl (et (ev_cond_n rfl (fun h7 => ?_) (fun h7 => ?_))))))))
      ·refine rg (xm rfl rfl (xm rfl rfl (evl_e (e_lit ttOk rfl rfl rfl) (evl_e (e_app ttOk rfl rfl rfl rfl rfl rfl rfl (by first | (simp; done) | (simp [rightUp]; done) | (simp; omega)) rfl rfl) (xs rfl rfl (nl (eb (et (rg (xa rfl rfl rfl om rfl (xm rfl rfl (nl (eve_round (2) [(101, 56)] ?hp ⟨trf, trf, ⟨⟨_, rfl, by (first | rfl | (simp only [rightUp, rightOf, uns] at *; generalize unsF ((readF t.a x).getD []) = oa at *; generalize unsF ((readF t.b x).getD []) = ob at *; cases oa <;> cases ob <;> simp_all))⟩, trivial⟩, tre, rfl⟩)))))))))))))
       case hp => exact ⟨by omega, by omega⟩
      ·refine ev_skip (eb (et (rg (xa rfl rfl rfl om rfl (xm rfl rfl (nl (eve_round (2) [] ?hp ⟨trf, trf, ⟨⟨_, rfl, by (first | rfl | (simp only [rightUp, rightOf, uns] at *; generalize unsF ((readF t.a x).getD []) = oa at *; generalize unsF ((readF t.b x).getD []) = ob at *; cases oa <;> cases ob <;> simp_all))⟩, trivial⟩, tre, rfl⟩)))))))
       case hp => exact ⟨by omega, by omega⟩
     ·refine gn h6 rfl rfl rfl (gn h6 rfl rfl rfl (gn h6 rfl rfl rfl (gn h6 rfl rfl rfl (gu rfl rfl rfl (gu rfl rfl rfl (gu rfl rfl rfl (gu rfl rfl rfl (gu rfl rfl rfl (gu rfl rfl rfl (gn h6 rfl rfl rfl (xo (q_pick_f rfl h6 rfl) rfl (nl (et (ev_cond_kf rfl rfl (ev_skip (eb (et (rg (xa rfl rfl rfl om rfl (xm rfl rfl (nl (eve_round (2) [] ?hp ⟨trf, trf, ⟨⟨_, rfl, by (first | rfl | (simp only [rightUp, rightOf, uns] at *; generalize unsF ((readF t.a x).getD []) = oa at *; generalize unsF ((readF t.b x).getD []) = ob at *; cases oa <;> cases ob <;> simp_all))⟩, trivial⟩, tre, rfl⟩))))))))))))))))))))))
      case hp => exact ⟨by omega, by omega⟩
   ·have d3 := of_decide_eq_false h3
    refine ev_exit (evx_then (evx_then (evx_hit (et (sq (rg (xm rfl rfl (xs rfl rfl (nl (et (ev_ret (ret_pure' ttOk rfl rfl ?_))))))))))))
    obtain rfl : k = 2 := by omega
    rw [right_yes ‹_› ‹_›]; rfl
def askerOk (x : Int) : Bool := inB x 2 5
def seqOk (x : Int) : Bool := inB x 1 2000
def indexOk (x : Int) : Bool := inB x 1 2000
def timeOk (x : Int) : Bool := inB x 0 1000000
def markOk (m : Mark) : Bool := askerOk m.client && (seqOk m.seq && indexOk m.index)
def hasIx (l : List Mark) (q : Int) : Bool := l.any fun m => decide (m.index = q)
def overB (l : List Mark) (k : Nat) (m : Mark) : Bool := match k with
 | 0 => true
 | j + 1 => match l[j]? with
  | some p => decide (p.client < m.client)
  | none => true
def stepOk (l : List Mark) (k : Nat) : Bool := match l[k]? with
 | none => true
 | some m => markOk m && (!hasIx (l.take k) m.index && overB l k m)
def seenOk (l : List Mark) : Bool := (List.range l.length).all (stepOk l)
theorem step_at {l : List Mark} {k : Nat} (hk : k < l.length) : stepOk l k = (markOk l[k] && (!hasIx (l.take k) l[k].index && overB l k l[k])) := by simp [stepOk, List.getElem?_eq_getElem hk]
theorem seenOk_iff {l : List Mark} : seenOk l = true ↔ ∀ k, k < l.length → stepOk l k = true := by simp [seenOk]
theorem seen_no {l : List Mark} {k : Nat} (hk : k < l.length) (h : stepOk l k = false) : seenOk l = false := by
 cases h2 : seenOk l with
 | false => rfl
 | true => rw [seenOk_iff.1 h2 k hk] at h; cases h
theorem seen_clients {l : List Mark} {n : Nat} (hn : n ≤ l.length) (h : ∀ k, k < n → stepOk l k = true) : ∀ k (hk : k < l.length), k < n → (k : Int) + 2 ≤ l[k].client ∧ l[k].client ≤ 5 := by
 intro k
 induction k with
 | zero =>
  intro hk hkn
  have := h 0 hkn
  rw [step_at hk] at this
  simp only [markOk, askerOk, inB, Bool.and_eq_true, decide_eq_true_eq] at this
  omega
 | succ k ih =>
  intro hk hkn
  have h1 := h (k + 1) hkn
  have h2 := ih om om
  rw [step_at hk] at h1
  simp only [markOk, askerOk, inB, overB, List.getElem?_eq_getElem (show k < l.length by omega), Bool.and_eq_true, decide_eq_true_eq] at h1
  omega
theorem seen_len {l : List Mark} (h : seenOk l = true) : l.length ≤ 4 := by
 rcases Nat.lt_or_ge 4 l.length with h4 | h4
 ·have := seen_clients (Nat.le_refl _) (seenOk_iff.1 h) 4 h4 h4
  omega
 ·exact h4
theorem step_no1 {l : List Mark} {k : Nat} (hk : k < l.length) (h : askerOk l[k].client = false) : stepOk l k = false := by rw [step_at hk]; simp [markOk, h]
theorem step_no2 {l : List Mark} {k : Nat} (hk : k < l.length) (h : seqOk l[k].seq = false) : stepOk l k = false := by rw [step_at hk]; simp [markOk, h]
theorem step_no3 {l : List Mark} {k : Nat} (hk : k < l.length) (h : indexOk l[k].index = false) : stepOk l k = false := by rw [step_at hk]; simp [markOk, h]
theorem step_no4 {l : List Mark} {k : Nat} (hk : k < l.length) (h : hasIx (l.take k) l[k].index = true) : stepOk l k = false := by rw [step_at hk]; simp [h]
theorem step_no5 {l : List Mark} {k : Nat} (hk : k < l.length) (h0 : 0 < k) (h : l[k - 1].client ≥ l[k].client) : stepOk l k = false := by
 rw [step_at hk]
 obtain ⟨j, rfl⟩ : ∃ j, k = j + 1 := ⟨k - 1, by omega⟩
 have : overB l (j + 1) l[j + 1] = false := by
  simp only [overB, List.getElem?_eq_getElem (show j < l.length by omega), decide_eq_false_iff_not]
  simpa using h
 simp [this]
theorem step_yes {l : List Mark} {k : Nat} (hk : k < l.length) (h1 : askerOk l[k].client = true) (h2 : seqOk l[k].seq = true) (h3 : indexOk l[k].index = true) (h4 : hasIx (l.take k) l[k].index = false) (h5 : k = 0 ∨ ∃ h0 : 0 < k, l[k - 1].client < l[k].client) : stepOk l k = true := by
 rw [step_at hk]
 have : overB l k l[k] = true := by
  rcases h5 with rfl | ⟨h0, h5⟩
  ·rfl
  ·obtain ⟨j, rfl⟩ : ∃ j, k = j + 1 := ⟨k - 1, by omega⟩
   simp only [overB, List.getElem?_eq_getElem (show j < l.length by omega), decide_eq_true_eq]
   simpa using h5
 simp [markOk, h1, h2, h3, h4, this]
theorem upto_next {l : List Mark} {k : Nat} (h : ∀ q, q < k → stepOk l q = true) (hk : stepOk l k = true) : ∀ q, q < k + 1 → stepOk l q = true := fun q hq => by
 rcases Nat.lt_or_ge q k with h9 | h9
 ·exact h q h9
 ·rw [show q = k by omega]; exact hk
def lastF (l : List Mark) : Int := l.foldl (fun s m => max s m.index) 0
theorem last_next {l : List Mark} {k : Nat} {s : Int} (hk : k < l.length) (h : s = lastF (l.take k)) : max s l[k].index = lastF (l.take (k + 1)) := by
 rw [List.take_succ_eq_append_getElem hk, lastF, List.foldl_append, h]; rfl
theorem last_all {l : List Mark} {k : Nat} {s : Int} (hk : ¬ k < l.length) (h : s = lastF (l.take k)) : s = lastF l := by rw [h, List.take_of_length_le om]
theorem all_takeP {α : Type} {p : α → Prop} {l : List α} {k : Nat} (hk : k < l.length) (h : ∀ x ∈ l.take k, p x) (hf : p l[k]) : ∀ x ∈ l.take (k + 1), p x := by
 intro x hx
 rw [List.take_succ_eq_append_getElem hk] at hx
 rcases List.mem_append.1 hx with hx | hx
 ·exact h x hx
 ·rw [List.mem_singleton.1 hx]; exact hf
theorem has_next {l : List Mark} {k : Nat} {q : Int} (hk : k < l.length) : hasIx (l.take (k + 1)) q = (hasIx (l.take k) q || decide (l[k].index = q)) := by
 unfold hasIx
 rw [List.take_succ_eq_append_getElem hk, List.any_append]
 simp only [List.any_cons, List.any_nil, Bool.or_false]
theorem has_at {l : List Mark} {k j : Nat} (hk : k < l.length) (hj : j < k) (h : l[j].index = l[k].index) : hasIx (l.take k) l[k].index = true := by
 unfold hasIx
 rw [List.any_eq_true]
 exact ⟨l[j], List.mem_iff_getElem.2 ⟨j, by rw [List.length_take]; omega, by rw [List.getElem_take]⟩, by simpa using h⟩
theorem c_AskerOk' (x : Int) : Pure Try.prog 75 [one (iC x)] (bR (askerOk x)) := by
 refine pure_intro (N := 5) Try.func75 rfl rfl rfl rfl (fun H w => ?_)
 refine sq (rg (xs rfl rfl (nl (et (sq (rg (xm rfl rfl (evl_call (nm := 4) (cf rfl) (c_between _ _ _) (rs_of rfl) rfl rfl rfl (xs rfl rfl (nl (et (ev_ret (ret_pure' ttOk rfl rfl ?_)))))))))))))
 rfl
theorem c_seqOk' (x : Int) : Pure Try.prog 76 [one (iC x)] (bR (seqOk x)) := by
 refine pure_intro (N := 5) Try.func76 rfl rfl rfl rfl (fun H w => ?_)
 refine sq (rg (xs rfl rfl (nl (et (sq (rg (xm rfl rfl (evl_call (nm := 4) (cf rfl) (c_between _ _ _) (rs_of rfl) rfl rfl rfl (xs rfl rfl (nl (et (ev_ret (ret_pure' ttOk rfl rfl ?_)))))))))))))
 rfl
theorem c_indexOk' (x : Int) : Pure Try.prog 65 [one (iC x)] (bR (indexOk x)) := by
 refine pure_intro (N := 5) Try.func65 rfl rfl rfl rfl (fun H w => ?_)
 refine sq (rg (xs rfl rfl (nl (et (sq (rg (xm rfl rfl (evl_call (nm := 4) (cf rfl) (c_between _ _ _) (rs_of rfl) rfl rfl rfl (xs rfl rfl (nl (et (ev_ret (ret_pure' ttOk rfl rfl ?_)))))))))))))
 rfl
theorem c_TimeOk' (x : Int) : Pure Try.prog 39 [one (iC x)] (bR (timeOk x)) := by
 refine pure_intro (N := 5) Try.func39 rfl rfl rfl rfl (fun H w => ?_)
 refine sq (rg (xs rfl rfl (nl (et (sq (rg (xm rfl rfl (evl_call (nm := 4) (cf rfl) (c_between _ _ _) (rs_of rfl) rfl rfl rfl (xs rfl rfl (nl (et (ev_ret (ret_pure' ttOk rfl rfl ?_)))))))))))))
 rfl
theorem c_lastSeen (l : List Mark) : Pure Try.prog 69 [one (marks l)] (iR (lastF l)) := by
 refine pure_intro (N := 18) Try.func69 rfl rfl rfl rfl (fun H w => ?_)
 refine ev_lenm (t := 0) rfl (fun hL => ?_)
 refine sq (rg (xs rfl rfl (nl (et (sq (rg (xs rfl rfl (nl (et (sq (sq (rg (xm rfl rfl (xo (q_len_map ttOk rfl rfl) rfl (xm rfl rfl (nl (et (ev_blk (ev_loop (fun i : Nat × Int => (⟨[(8, iV i.1), (6, cV (marks l)), (7, iV l.length), (3, iV i.2)], [], [], []⟩ : St)) (fun i => i.1 ≤ l.length ∧ i.2 = lastF (l.take i.1)) (fun i => l.length - i.1) (0, 0) [] (⟨by simp, rfl⟩) lei ?_)))))))))))))))))))
 intro i hp
 obtain ⟨k, s⟩ := i
 have hp : k ≤ l.length ∧ s = lastF (l.take k) := hp
 obtain ⟨p0, p1⟩ := hp
 show Ev _ _ _ _ (⟨[(8, iV k), (6, cV (marks l)), (7, iV l.length), (3, iV s)], [], [], []⟩ : St)
 refine sq (rg (xb ttOk rfl rfl (nl (et (sq (ev_cond rfl (fun h1 => ?_) (fun h1 => ?_)))))))
 ·have d1 := of_decide_eq_true h1
  refine ev_skip (et (sq (ev_blk (sq (rg (xo (q_ix_map ttOk rfl rfl rfl rfl om) rfl (xl ttOk rfl rfl (evl_e (e_alloc ttOk rfl rfl rfl rfl) (xst ttOk rfl rfl (nl (et (rg (xm rfl rfl (xf ttOk rfl rfl (xl ttOk rfl rfl (xo (q_max rfl rfl) rfl (xs rfl rfl (nl (eb (et (rg (xa rfl rfl rfl om rfl (xm rfl rfl (nl (eve_round (k + 1, _) [] ?hp lei)))))))))))))))))))))))))
  case hp => exact ⟨⟨by omega, last_next om p1⟩, by omega⟩
 ·have d1 := of_decide_eq_false h1
  refine ev_exit (evx_then (evx_then (evx_hit (et (sq (rg (xm rfl rfl (xs rfl rfl (nl (et (ev_ret (ret_pure' ttOk rfl rfl ?_))))))))))))
  rw [last_all om p1]
theorem mapI_next {l : List Mark} {k : Nat} (hk : k < l.length) (q : Int) : (if hasIx (l.take (k + 1)) q = true then some (Value.bool true) else none) = if q = l[k].index then some (mkV false [.bool true]) else if hasIx (l.take k) q = true then some (Value.bool true) else none := by
 rw [has_next hk]
 by_cases h : q = l[k].index
 ·subst h; simp; rfl
 ·have : ¬ l[k].index = q := fun e => h e.symm
  simp [h, this]
theorem c_SeenOk' (l : List Mark) : Pure Try.prog 68 [one (marks l)] (bR (seenOk l)) := by
 refine pure_intro (N := 53) Try.func68 rfl rfl rfl rfl (fun H w => ?_)
 refine ev_lenm (t := 0) rfl (fun hL => ?_)
 refine sq (rg (xs rfl rfl (nl (et (sq (rg (evl_e (e_mkmap (kt := 2) (et := 4) kr rfl rfl) (xs rfl rfl (nl (et (sq (sq (rg (xm rfl rfl (xo (q_len_map ttOk rfl rfl) rfl (xm rfl rfl (nl (et (ev_blk (ev_loop (fun k : Nat => (⟨[(9, iV k), (7, cV (marks l)), (8, iV l.length), (0, cV (marks l)), (3, .p false [.mp 6])], [], [], [(6, fun q => if hasIx (l.take k) q = true then some (Value.bool true) else none)]⟩ : St)) (fun k => k ≤ l.length ∧ ∀ q, q < k → stepOk l q = true) (fun k => l.length - k) 0 [] (⟨by simp, by simp⟩) ⟨trf, trf, tre, ⟨⟨_, rfl, by funext q; rfl⟩, trivial⟩, rfl⟩ ?_))))))))))))))))))))
 intro k hp
 obtain ⟨p0, p1⟩ := hp
 show Ev _ _ _ _ (⟨[(9, iV k), (7, cV (marks l)), (8, iV l.length), (0, cV (marks l)), (3, .p false [.mp 6])], [], [], [(6, fun q => if hasIx (l.take k) q = true then some (Value.bool true) else none)]⟩ : St)
 refine sq (rg (xb ttOk rfl rfl (nl (et (sq (ev_cond rfl (fun h1 => ?_) (fun h1 => ?_)))))))
 try have d1 := of_decide_eq_true h1
 refine ev_skip (et (sq (ev_blk (sq (rg (xm rfl rfl (xo (q_ix_map ttOk rfl rfl rfl rfl om) rfl (xl ttOk rfl rfl (evl_e (e_alloc ttOk rfl rfl rfl rfl) (xs rfl rfl (xst ttOk rfl rfl (nl (et (sq (sq (rg (xf ttOk rfl rfl (xl ttOk rfl rfl (evl_call (nm := 16) (cf rfl) (c_AskerOk' _) (rs_of rfl) rfl rfl rfl (xo (q_not rfl) rfl (xm rfl rfl (evl_partn rfl rfl (fun h2 => ?_) (fun h2 => ?_)))))))))))))))))))))))
 try have d2 := of_decide_eq_false h2
 refine gn (nt h2) rfl rfl rfl (gn (nt h2) rfl rfl rfl (gn (nt h2) rfl rfl rfl (gn (nt h2) rfl rfl rfl (xo (q_pick_t rfl (nt h2) rfl) rfl (xm rfl rfl (gn rfl rfl rfl rfl (gn rfl rfl rfl rfl (gn rfl rfl rfl rfl (gn rfl rfl rfl rfl (xo (q_pick_t rfl rfl rfl) rfl (xm rfl rfl (gn rfl rfl rfl rfl (gn rfl rfl rfl rfl (gn rfl rfl rfl rfl (gn rfl rfl rfl rfl (xo (q_pick_t rfl rfl rfl) rfl (nl (et (ev_cond_kt rfl rfl (sq (rg (xs rfl rfl (nl (et (ev_ret (evr_then (evr_blk (evr_then (evr_then (evr_blk (evr_then (ret_pure' ttOk rfl rfl (congrArg bR (?_ : _ = _))))))))))))))))))))))))))))))))))
 rotate_left
 try have d2 := of_decide_eq_true h2
 refine go (nf h2) rfl rfl (q_fieldAddr ttOk rfl) rfl (go (nf h2) rfl rfl (q_load ttOk rfl) rfl (evl_callg rfl rfl (nf h2) (nm := 21) (cf rfl) (c_seqOk' _) (rs_of rfl) rfl rfl rfl (go (nf h2) rfl rfl (q_not rfl) rfl (xo (q_pick_f rfl (nf h2) rfl) rfl (xm rfl rfl (evl_partn rfl rfl (fun h3 => ?_) (fun h3 => ?_)))))))
 try have d3 := of_decide_eq_false h3
 refine gn (nt h3) rfl rfl rfl (gn (nt h3) rfl rfl rfl (gn (nt h3) rfl rfl rfl (gn (nt h3) rfl rfl rfl (xo (q_pick_t rfl (nt h3) rfl) rfl (xm rfl rfl (gn rfl rfl rfl rfl (gn rfl rfl rfl rfl (gn rfl rfl rfl rfl (gn rfl rfl rfl rfl (xo (q_pick_t rfl rfl rfl) rfl (nl (et (ev_cond_kt rfl rfl (sq (rg (xs rfl rfl (nl (et (ev_ret (evr_then (evr_blk (evr_then (evr_then (evr_blk (evr_then (ret_pure' ttOk rfl rfl (congrArg bR (?_ : _ = _))))))))))))))))))))))))))))
 rotate_left
 try have d3 := of_decide_eq_true h3
 refine go (nf h3) rfl rfl (q_fieldAddr ttOk rfl) rfl (go (nf h3) rfl rfl (q_load ttOk rfl) rfl (evl_callg rfl rfl (nf h3) (nm := 27) (cf rfl) (c_indexOk' _) (rs_of rfl) rfl rfl rfl (go (nf h3) rfl rfl (q_not rfl) rfl (xo (q_pick_f rfl (nf h3) rfl) rfl (xm rfl rfl (evl_partn rfl rfl (fun h4 => ?_) (fun h4 => ?_)))))))
 try have d4 := of_decide_eq_false h4
 refine gn (nt h4) rfl rfl rfl (gn (nt h4) rfl rfl rfl (gn (nt h4) rfl rfl rfl (gn (nt h4) rfl rfl rfl (xo (q_pick_t rfl (nt h4) rfl) rfl (nl (et (ev_cond_kt rfl rfl (sq (rg (xs rfl rfl (nl (et (ev_ret (evr_then (evr_blk (evr_then (evr_then (evr_blk (evr_then (ret_pure' ttOk rfl rfl (congrArg bR (?_ : _ = _))))))))))))))))))))))
 rotate_left
 try have d4 := of_decide_eq_true h4
 refine gm (nf h4) rfl rfl rfl rfl (go (nf h4) rfl rfl (q_fieldAddr ttOk rfl) rfl (go (nf h4) rfl rfl (q_load ttOk rfl) rfl (go (nf h4) rfl rfl (q_lookup_b (kt := 2) (et := 4) kr ttOk rfl rfl rfl rfl rfl rfl rfl) rfl (xo (q_pick_f rfl (nf h4) rfl) rfl (nl (et (ev_cond rfl (fun h5 => ?_) (fun h5 => ?_))))))))
 try have d5 := of_decide_eq_true h5
 refine ev_pr [0, 2, 3, 4, 5, 7, 8, 9, 10, 11, 12, 13, 14, 15, 16, 17, 18, 19, 20, 21, 22, 23, 24, 25, 26, 27, 28, 29, 30, 31, 32, 33, 34, 35, 36, 37, 38, 39, 40, 41, 42, 43, 44, 45, 46, 47, 48, 49, 50, 51, 52] rfl (sq (rg (xs rfl rfl (nl (et (ev_ret (evr_then (evr_blk (evr_then (evr_then (evr_blk (evr_then (ret_pure' ttOk rfl rfl (congrArg bR (?_ : _ = _)))))))))))))))
 rotate_left
 try have d5 := of_decide_eq_false h5
 refine ev_skip (et (ev_pr [0, 2, 3, 4, 5, 7, 8, 9, 10, 11, 12, 13, 14, 15, 16, 17, 18, 19, 20, 21, 22, 23, 24, 25, 26, 27, 28, 29, 30, 31, 32, 33, 34, 35, 36, 37, 38, 39, 40, 41, 42, 43, 44, 45, 46, 47, 48, 49, 50, 51, 52] rfl (sq (sq (ev_drawq [] mo (rk0 0 rfl (q_move rfl) rfl (rk0 1 rfl (q_bin ttOk rfl) rfl (rk0 2 rfl (q_move rfl) rfl (rdk_part (t := 38) rfl (fun h6 => ?_) (fun h6 => ?_))))))))))
 try have d6 := of_decide_eq_true h6
 refine rkt 3 rfl rfl rfl h6 (q_move rfl) rfl (rkt 4 rfl rfl rfl h6 (q_move rfl) rfl (rkt 5 rfl rfl rfl h6 (q_ar rfl rfl rfl om) rfl (rkt 6 rfl rfl rfl h6 (q_ix_map (m := k - 1) ttOk rfl rfl rfl om om) rfl (rkt 7 rfl rfl rfl h6 (q_fieldAddr ttOk rfl) rfl (rkt 8 rfl rfl rfl h6 (q_load ttOk rfl) rfl (rkt 9 rfl rfl rfl h6 (q_fieldAddr ttOk rfl) rfl (rkt 10 rfl rfl rfl h6 (q_load ttOk rfl) rfl (rkt 11 rfl rfl rfl h6 (q_bin ttOk rfl) rfl (rk0 12 rfl (q_pick_t rfl h6 rfl) rfl (rdk_endq kr (et (ev_cond rfl (fun h7 => ?_) (fun h7 => ?_)))))))))))))
 try have d7 := of_decide_eq_true h7
 refine sq (rg (xs rfl rfl (nl (et (ev_ret (evr_then (evr_blk (evr_then (evr_then (evr_blk (evr_then (ret_pure' ttOk rfl rfl (congrArg bR (?_ : _ = _))))))))))))))
 rotate_left
 try have d7 := of_decide_eq_false h7
 refine ev_skip (et (rg (xm rfl rfl (xf ttOk rfl rfl (xl ttOk rfl rfl (evl_e (e_mapset (f' := fun q => if hasIx (l.take (k + 1)) q = true then some (Value.bool true) else none) (kt := 2) (et := 4) kr rfl rfl rfl rfl rfl (mapI_next om) rfl) (nl (eb (et (rg (xa rfl rfl rfl om rfl (xm rfl rfl (nl (eve_round (k + 1) [] ?hp lei))))))))))))))
 case hp => exact ⟨⟨by omega, upto_next p1 (step_yes om ‹_› ‹_› ‹_› ‹_› (by first | exact .inl om | exact .inr ⟨by omega, by omega⟩))⟩, by omega⟩
 try have d6 := of_decide_eq_false h6
 refine rks 3 rfl rfl rfl h6 rfl (rks 4 rfl rfl rfl h6 rfl (rks 5 rfl rfl rfl h6 rfl (rks 6 rfl rfl rfl h6 rfl (rks 7 rfl rfl rfl h6 rfl (rks 8 rfl rfl rfl h6 rfl (rks 9 rfl rfl rfl h6 rfl (rks 10 rfl rfl rfl h6 rfl (rks 11 rfl rfl rfl h6 rfl (rk0 12 rfl (q_pick_f rfl h6 rfl) rfl (rdk_endq kr (et (ev_cond_kf rfl rfl (ev_skip (et (rg (xm rfl rfl (xf ttOk rfl rfl (xl ttOk rfl rfl (evl_e (e_mapset (f' := fun q => if hasIx (l.take (k + 1)) q = true then some (Value.bool true) else none) (kt := 2) (et := 4) kr rfl rfl rfl rfl rfl (mapI_next om) rfl) (nl (eb (et (rg (xa rfl rfl rfl om rfl (xm rfl rfl (nl (eve_round (k + 1) [] ?hp lei)))))))))))))))))))))))))))
 case hp => exact ⟨⟨by omega, upto_next p1 (step_yes om ‹_› ‹_› ‹_› ‹_› (by first | exact .inl om | exact .inr ⟨by omega, by omega⟩))⟩, by omega⟩
 try have d1 := of_decide_eq_false h1
 refine ev_exit (evx_then (evx_then (evx_hit (et (sq (rg (xs rfl rfl (nl (et (ev_ret (ret_pure' ttOk rfl rfl (congrArg bR (?_ : _ = _)))))))))))))
 rotate_left
 all_goals
  first
  | (have hh : ¬ l.length ≤ 4 := by omega
     cases hs : seenOk l with
     | false => rfl
     | true => exact absurd (seen_len hs) hh)
  | exact (seen_no (k := k) om (step_no1 om ‹_›)).symm
  | exact (seen_no (k := k) om (step_no2 om ‹_›)).symm
  | exact (seen_no (k := k) om (step_no3 om ‹_›)).symm
  | exact (seen_no (k := k) om (step_no4 om ‹_›)).symm
  | exact (seen_no (k := k) om (step_no5 om om ‹_›)).symm
  | exact (seenOk_iff.2 fun q hq => p1 q om).symm
structure Head where
 num : Int
 base : Int
 time : Int
 seen : List Mark
@[reducible] def headC (h : Head) : List C := [iC h.num, iC h.base, iC h.time, marks h.seen]
@[reducible] def marksR (l : List Mark) : RC := .s 89 3 (l.map markC)
@[reducible] def headR (h : Head) : List RC := [.v (.int .i64 h.num), .v (.int .i64 h.base), .v (.int .i64 h.time), marksR h.seen]
def headOk (h : Head) : Bool := inB h.base 0 2000 && (inB h.num 0 h.base && (timeOk h.time && ((decide (h.base > 0) || decide (h.time = 0)) && (seenOk h.seen && decide (lastF h.seen = h.base)))))
theorem c_HeadOk' (h : Head) : Pure Try.prog 48 [many (headC h)] (bR (headOk h)) := by
 refine pure_intro (N := 41) Try.func48 rfl rfl rfl rfl (fun H w => ?_)
 refine sq (rg (evl_e (e_box rfl rfl rfl rfl) (xs rfl rfl (nl (et (sq (ev_drawq [] mo (rk0 0 rfl (q_fieldAddr ttOk rfl) rfl (rk0 1 rfl (q_load ttOk rfl) rfl (rdk_one 2 kr (rdo_call (nm := 5) rfl trivial (cf rfl) (c_between _ _ _) (rs_of rfl) rfl rfl rfl (rk0 3 rfl (q_move rfl) rfl (rdk_part (t := 6) rfl (fun h1 => ?_) (fun h1 => ?_))))))))))))))
 ·refine rkt 4 rfl rfl rfl h1 (q_fieldAddr ttOk rfl) rfl (rkt 5 rfl rfl rfl h1 (q_load ttOk rfl) rfl (rkt 6 rfl rfl rfl h1 (q_fieldAddr ttOk rfl) rfl (rkt 7 rfl rfl rfl h1 (q_load ttOk rfl) rfl (rdk_one 8 kr (rdo_call (nm := 11) rfl ⟨_, _, rfl, rfl, h1⟩ (cf rfl) (c_between _ _ _) (rs_of rfl) rfl rfl rfl (rk0 9 rfl (q_pick_t rfl h1 rfl) rfl (rk0 10 rfl (q_move rfl) rfl (rdk_part (t := 13) rfl (fun h2 => ?_) (fun h2 => ?_)))))))))
  ·refine rkt 11 rfl rfl rfl h2 (q_fieldAddr ttOk rfl) rfl (rkt 12 rfl rfl rfl h2 (q_load ttOk rfl) rfl (rdk_one 13 kr (rdo_call (nm := 16) rfl ⟨_, _, rfl, rfl, h2⟩ (cf rfl) (c_TimeOk' _) (rs_of rfl) rfl rfl rfl (rk0 14 rfl (q_pick_t rfl h2 rfl) rfl (rk0 15 rfl (q_move rfl) rfl (rdk_part (t := 18) rfl (fun h3 => ?_) (fun h3 => ?_)))))))
   ·refine rkt 16 rfl rfl rfl h3 (q_fieldAddr ttOk rfl) rfl (rkt 17 rfl rfl rfl h3 (q_load ttOk rfl) rfl (rkt 18 rfl rfl rfl h3 (q_bin ttOk rfl) rfl (rkt 19 rfl rfl rfl h3 (q_move rfl) rfl (rdk_part (t := 22) rfl (fun h4 => ?_) (fun h4 => ?_)))))
    ·refine rks 20 rfl rfl rfl h4 rfl (rks 21 rfl rfl rfl h4 rfl (rks 22 rfl rfl rfl h4 rfl (rkt 23 rfl rfl rfl h3 (q_pick_t rfl h4 rfl) rfl (rk0 24 rfl (q_pick_t rfl h3 rfl) rfl (rk0 25 rfl (q_move rfl) rfl (rkt 26 rfl rfl rfl rfl (q_fieldAddr ttOk rfl) rfl (rkt 27 rfl rfl rfl rfl (q_load ttOk rfl) rfl (rdk_one 28 kr (rdo_call (nm := 31) rfl ⟨_, _, rfl, rfl, rfl⟩ (cf rfl) (c_SeenOk' _) (rs_of rfl) rfl rfl rfl (rk0 29 rfl (q_pick_t rfl rfl rfl) rfl (rk0 30 rfl (q_move rfl) rfl (rdk_part (t := 33) rfl (fun h5 => ?_) (fun h5 => ?_)))))))))))))
     ·refine rkt 31 rfl rfl rfl h5 (q_fieldAddr ttOk rfl) rfl (rkt 32 rfl rfl rfl h5 (q_load ttOk rfl) rfl (rkt 34 rfl rfl rfl h5 (q_fieldAddr ttOk rfl) rfl (rkt 35 rfl rfl rfl h5 (q_load ttOk rfl) rfl (rdk_one 33 kr (rdo_call (nm := 36) rfl ⟨_, _, rfl, rfl, h5⟩ (cf rfl) (c_lastSeen _) (rs_of rfl) rfl rfl rfl (rkt 36 rfl rfl rfl h5 (q_bin ttOk rfl) rfl (rk0 37 rfl (q_pick_t rfl h5 rfl) rfl (rk0 38 rfl (q_assign rfl) rfl (rdk_endq kr (et (ev_ret (ret_pure' ttOk rfl rfl (congrArg bR (?_ : _ = _))))))))))))))
      simp_all [headOk] <;> (intros; omega)
     ·refine rks 31 rfl rfl rfl h5 rfl (rks 32 rfl rfl rfl h5 rfl (rks 33 rfl rfl rfl h5 rfl (rks 34 rfl rfl rfl h5 rfl (rks 35 rfl rfl rfl h5 rfl (rks 36 rfl rfl rfl h5 rfl (rk0 37 rfl (q_pick_f rfl h5 rfl) rfl (rk0 38 rfl (q_assign rfl) rfl (rdk_endq kr (et (ev_ret (ret_pure' ttOk rfl rfl (congrArg bR (?_ : _ = _)))))))))))))
      simp_all [headOk] <;> (intros; omega)
    ·refine rkt 20 rfl rfl rfl h4 (q_fieldAddr ttOk rfl) rfl (rkt 21 rfl rfl rfl h4 (q_load ttOk rfl) rfl (rkt 22 rfl rfl rfl h4 (q_bin ttOk rfl) rfl (rkt 23 rfl rfl rfl h3 (q_pick_f rfl h4 rfl) rfl (rk0 24 rfl (q_pick_t rfl h3 rfl) rfl (rk0 25 rfl (q_move rfl) rfl (rdk_part (t := 28) rfl (fun h6 => ?_) (fun h6 => ?_)))))))
     ·refine rkt 26 rfl rfl rfl h6 (q_fieldAddr ttOk rfl) rfl (rkt 27 rfl rfl rfl h6 (q_load ttOk rfl) rfl (rdk_one 28 kr (rdo_call (nm := 31) rfl ⟨_, _, rfl, rfl, h6⟩ (cf rfl) (c_SeenOk' _) (rs_of rfl) rfl rfl rfl (rk0 29 rfl (q_pick_t rfl h6 rfl) rfl (rk0 30 rfl (q_move rfl) rfl (rdk_part (t := 33) rfl (fun h7 => ?_) (fun h7 => ?_)))))))
      ·refine rkt 31 rfl rfl rfl h7 (q_fieldAddr ttOk rfl) rfl (rkt 32 rfl rfl rfl h7 (q_load ttOk rfl) rfl (rkt 34 rfl rfl rfl h7 (q_fieldAddr ttOk rfl) rfl (rkt 35 rfl rfl rfl h7 (q_load ttOk rfl) rfl (rdk_one 33 kr (rdo_call (nm := 36) rfl ⟨_, _, rfl, rfl, h7⟩ (cf rfl) (c_lastSeen _) (rs_of rfl) rfl rfl rfl (rkt 36 rfl rfl rfl h7 (q_bin ttOk rfl) rfl (rk0 37 rfl (q_pick_t rfl h7 rfl) rfl (rk0 38 rfl (q_assign rfl) rfl (rdk_endq kr (et (ev_ret (ret_pure' ttOk rfl rfl (congrArg bR (?_ : _ = _))))))))))))))
       simp_all [headOk] <;> (intros; omega)
      ·refine rks 31 rfl rfl rfl h7 rfl (rks 32 rfl rfl rfl h7 rfl (rks 33 rfl rfl rfl h7 rfl (rks 34 rfl rfl rfl h7 rfl (rks 35 rfl rfl rfl h7 rfl (rks 36 rfl rfl rfl h7 rfl (rk0 37 rfl (q_pick_f rfl h7 rfl) rfl (rk0 38 rfl (q_assign rfl) rfl (rdk_endq kr (et (ev_ret (ret_pure' ttOk rfl rfl (congrArg bR (?_ : _ = _)))))))))))))
       simp_all [headOk] <;> (intros; omega)
     ·refine rks 26 rfl rfl rfl h6 rfl (rks 27 rfl rfl rfl h6 rfl (rks 28 rfl rfl rfl h6 rfl (rk0 29 rfl (q_pick_f rfl h6 rfl) rfl (rk0 30 rfl (q_move rfl) rfl (rks 31 rfl rfl rfl rfl rfl (rks 32 rfl rfl rfl rfl rfl (rks 33 rfl rfl rfl rfl rfl (rks 34 rfl rfl rfl rfl rfl (rks 35 rfl rfl rfl rfl rfl (rks 36 rfl rfl rfl rfl rfl (rk0 37 rfl (q_pick_f rfl rfl rfl) rfl (rk0 38 rfl (q_assign rfl) rfl (rdk_endq kr (et (ev_ret (ret_pure' ttOk rfl rfl (congrArg bR (?_ : _ = _))))))))))))))))))
      simp_all [headOk] <;> (intros; omega)
   ·refine rks 16 rfl rfl rfl h3 rfl (rks 17 rfl rfl rfl h3 rfl (rks 18 rfl rfl rfl h3 rfl (rks 19 rfl rfl rfl h3 rfl (rdk_skip 20 rfl kr ⟨_, rfl, .inr rfl⟩ rfl (rdk_skip 21 rfl kr ⟨_, rfl, .inr rfl⟩ rfl (rdk_skip 22 rfl kr ⟨_, rfl, .inr rfl⟩ rfl (rks 23 rfl rfl rfl h3 rfl (rk0 24 rfl (q_pick_f rfl h3 rfl) rfl (rk0 25 rfl (q_move rfl) rfl (rks 26 rfl rfl rfl rfl rfl (rks 27 rfl rfl rfl rfl rfl (rks 28 rfl rfl rfl rfl rfl (rk0 29 rfl (q_pick_f rfl rfl rfl) rfl (rk0 30 rfl (q_move rfl) rfl (rks 31 rfl rfl rfl rfl rfl (rks 32 rfl rfl rfl rfl rfl (rks 33 rfl rfl rfl rfl rfl (rks 34 rfl rfl rfl rfl rfl (rks 35 rfl rfl rfl rfl rfl (rks 36 rfl rfl rfl rfl rfl (rk0 37 rfl (q_pick_f rfl rfl rfl) rfl (rk0 38 rfl (q_assign rfl) rfl (rdk_endq kr (et (ev_ret (ret_pure' ttOk rfl rfl (congrArg bR (?_ : _ = _))))))))))))))))))))))))))))
    simp_all [headOk] <;> (intros; omega)
  ·refine rks 11 rfl rfl rfl h2 rfl (rks 12 rfl rfl rfl h2 rfl (rks 13 rfl rfl rfl h2 rfl (rk0 14 rfl (q_pick_f rfl h2 rfl) rfl (rk0 15 rfl (q_move rfl) rfl (rks 16 rfl rfl rfl rfl rfl (rks 17 rfl rfl rfl rfl rfl (rks 18 rfl rfl rfl rfl rfl (rks 19 rfl rfl rfl rfl rfl (rdk_skip 20 rfl kr ⟨_, rfl, .inr rfl⟩ rfl (rdk_skip 21 rfl kr ⟨_, rfl, .inr rfl⟩ rfl (rdk_skip 22 rfl kr ⟨_, rfl, .inr rfl⟩ rfl (rks 23 rfl rfl rfl rfl rfl (rk0 24 rfl (q_pick_f rfl rfl rfl) rfl (rk0 25 rfl (q_move rfl) rfl (rks 26 rfl rfl rfl rfl rfl (rks 27 rfl rfl rfl rfl rfl (rks 28 rfl rfl rfl rfl rfl (rk0 29 rfl (q_pick_f rfl rfl rfl) rfl (rk0 30 rfl (q_move rfl) rfl (rks 31 rfl rfl rfl rfl rfl (rks 32 rfl rfl rfl rfl rfl (rks 33 rfl rfl rfl rfl rfl (rks 34 rfl rfl rfl rfl rfl (rks 35 rfl rfl rfl rfl rfl (rks 36 rfl rfl rfl rfl rfl (rk0 37 rfl (q_pick_f rfl rfl rfl) rfl (rk0 38 rfl (q_assign rfl) rfl (rdk_endq kr (et (ev_ret (ret_pure' ttOk rfl rfl (congrArg bR (?_ : _ = _)))))))))))))))))))))))))))))))))
   simp_all [headOk] <;> (intros; omega)
 ·refine rks 4 rfl rfl rfl h1 rfl (rks 5 rfl rfl rfl h1 rfl (rks 6 rfl rfl rfl h1 rfl (rks 7 rfl rfl rfl h1 rfl (rks 8 rfl rfl rfl h1 rfl (rk0 9 rfl (q_pick_f rfl h1 rfl) rfl (rk0 10 rfl (q_move rfl) rfl (rks 11 rfl rfl rfl rfl rfl (rks 12 rfl rfl rfl rfl rfl (rks 13 rfl rfl rfl rfl rfl (rk0 14 rfl (q_pick_f rfl rfl rfl) rfl (rk0 15 rfl (q_move rfl) rfl (rks 16 rfl rfl rfl rfl rfl (rks 17 rfl rfl rfl rfl rfl (rks 18 rfl rfl rfl rfl rfl (rks 19 rfl rfl rfl rfl rfl (rdk_skip 20 rfl kr ⟨_, rfl, .inr rfl⟩ rfl (rdk_skip 21 rfl kr ⟨_, rfl, .inr rfl⟩ rfl (rdk_skip 22 rfl kr ⟨_, rfl, .inr rfl⟩ rfl (rks 23 rfl rfl rfl rfl rfl (rk0 24 rfl (q_pick_f rfl rfl rfl) rfl (rk0 25 rfl (q_move rfl) rfl (rks 26 rfl rfl rfl rfl rfl (rks 27 rfl rfl rfl rfl rfl (rks 28 rfl rfl rfl rfl rfl (rk0 29 rfl (q_pick_f rfl rfl rfl) rfl (rk0 30 rfl (q_move rfl) rfl (rks 31 rfl rfl rfl rfl rfl (rks 32 rfl rfl rfl rfl rfl (rks 33 rfl rfl rfl rfl rfl (rks 34 rfl rfl rfl rfl rfl (rks 35 rfl rfl rfl rfl rfl (rks 36 rfl rfl rfl rfl rfl (rk0 37 rfl (q_pick_f rfl rfl rfl) rfl (rk0 38 rfl (q_assign rfl) rfl (rdk_endq kr (et (ev_ret (ret_pure' ttOk rfl rfl (congrArg bR (?_ : _ = _))))))))))))))))))))))))))))))))))))))))
  simp_all [headOk] <;> (intros; omega)
def slotM (l : List Int) (i : Nat) : List Mark := if l.getD (3 + 2 * i) 0 ≠ 0 ∨ l.getD (4 + 2 * i) 0 ≠ 0 then [⟨2 + i, l.getD (3 + 2 * i) 0, l.getD (4 + 2 * i) 0⟩] else []
def seenUp (l : List Int) : Nat → List Mark
 | 0 => []
 | k + 1 => seenUp l k ++ slotM l k
def noHead : Head := ⟨0, 0, 0, []⟩
def headOf (l : List Int) : Head := ⟨l.getD 0 0, l.getD 1 0, l.getD 2 0, seenUp l 4⟩
def rowHeadF (l : List Int) : Option Head := if l.length = 13 ∧ headOk (headOf l) = true ∧ l.getD 11 0 = l.getD 0 0 ∧ l.getD 12 0 = l.getD 0 0 then some (headOf l) else none
theorem getD_at {l : List Int} {k : Nat} (hk : k < l.length) : l.getD k 0 = l[k] := by simp [hk]
theorem slot_some {l : List Int} {k : Nat} (h1 : 3 + 2 * k < l.length) (h2 : 4 + 2 * k < l.length) (h : l[3 + 2 * k] ≠ 0 ∨ l[4 + 2 * k] ≠ 0) : (seenUp l k).map markC ++ [[iC (2 + k), iC l[3 + 2 * k], iC l[4 + 2 * k]]] = (seenUp l (k + 1)).map markC := by
 have : slotM l k = [⟨2 + k, l[3 + 2 * k], l[4 + 2 * k]⟩] := by unfold slotM; rw [getD_at h1, getD_at h2, if_pos h]
 simp [seenUp, this]
theorem slot_none {l : List Int} {k : Nat} (h1 : 3 + 2 * k < l.length) (h2 : 4 + 2 * k < l.length) (h3 : l[3 + 2 * k] = 0) (h4 : l[4 + 2 * k] = 0) : (seenUp l k).map markC = (seenUp l (k + 1)).map markC := by
 have : slotM l k = [] := by unfold slotM; rw [getD_at h1, getD_at h2, if_neg (by simp [h3, h4])]
 simp [seenUp, this]
theorem seenUp_len (l : List Int) : ∀ k, (seenUp l k).length ≤ k
 | 0 => by simp [seenUp]
 | k + 1 => by
  have := seenUp_len l k
  simp only [seenUp, List.length_append, slotM]
  split <;> simp <;> omega
theorem headOf_eq {l : List Int} (h : l.length = 13) : headOf l = ⟨l[0], l[1], l[2], seenUp l 4⟩ := by
 unfold headOf
 rw [getD_at (by omega : 0 < l.length), getD_at (by omega : 1 < l.length), getD_at (by omega : 2 < l.length)]
theorem rh_no1 {l : List Int} (h : l.length ≠ 13) : rowHeadF l = none := if_neg fun hh => h hh.1
theorem rh_no2 {l : List Int} (h : headOk (headOf l) = false) : rowHeadF l = none := if_neg fun hh => by rw [hh.2.1] at h; cases h
theorem rh_no3 {l : List Int} (hl : l.length = 13) (h : l[11] ≠ l[0]) : rowHeadF l = none := if_neg fun hh => h (by have := hh.2.2.1; rwa [getD_at (by omega : 11 < l.length), getD_at (by omega : 0 < l.length)] at this)
theorem rh_no4 {l : List Int} (hl : l.length = 13) (h : l[12] ≠ l[0]) : rowHeadF l = none := if_neg fun hh => h (by have := hh.2.2.2; rwa [getD_at (by omega : 12 < l.length), getD_at (by omega : 0 < l.length)] at this)
theorem rh_yes {l : List Int} (hl : l.length = 13) (h1 : headOk (headOf l) = true) (h2 : l[11] = l[0]) (h3 : l[12] = l[0]) : rowHeadF l = some (headOf l) := if_pos ⟨hl, h1, by rw [getD_at (by omega : 11 < l.length), getD_at (by omega : 0 < l.length), h2], by rw [getD_at (by omega : 12 < l.length), getD_at (by omega : 0 < l.length), h3]⟩
theorem c_RowHead' (l : List Int) : Pure Try.prog 55 [one (ints l)] [many' (headR ((rowHeadF l).getD noHead)), one' (RC.v (.bool (rowHeadF l).isSome))] := by
 refine pure_intro (N := 75) Try.func55 rfl rfl rfl rfl (fun H w => ?_)
 refine sq (rg (evl_e (e_alloc ttOk rfl rfl rfl rfl) (xs rfl rfl (nl (et (sq (sq (rg (xm rfl rfl (xo (q_len_map ttOk rfl rfl) rfl (xb ttOk rfl rfl (nl (et (ev_cond rfl (fun h1 => ?_) (fun h1 => ?_)))))))))))))))
 ·try have d1 := of_decide_eq_true h1
  refine sq (rg (xo (q_build ttOk rfl) rfl (xst ttOk rfl rfl (xs rfl rfl (nl (et (ev_ret (evr_then (ret_pureN ttOk rfl rfl ?_)))))))))
  rw [rh_no1 om]; simp [RpLe, L2, RcLe, noHead]
 ·try have d1 := of_decide_eq_false h1
  refine ev_skip (et (sq (ev_drawq [11] mo (rk0 0 rfl (q_move rfl) rfl (rk0 1 rfl (q_ix_map (m := 0) ttOk rfl rfl rfl om om) rfl (rk0 2 rfl (q_load ttOk rfl) rfl (rk0 3 rfl (q_move rfl) rfl (rk0 4 rfl (q_ix_map (m := 1) ttOk rfl rfl rfl om om) rfl (rk0 5 rfl (q_load ttOk rfl) rfl (rk0 6 rfl (q_move rfl) rfl (rk0 7 rfl (q_ix_map (m := 2) ttOk rfl rfl rfl om om) rfl (rk0 8 rfl (q_load ttOk rfl) rfl (rk0 9 rfl (q_build ttOk rfl) rfl (rdk_one 10 kr (rdo_new rfl trivial (e_alloc ttOk rfl rfl rfl rfl) (rdk_one 11 kr (rdo_brk rfl rfl trivial (e_store ttOk rfl) (rdb_endq kr (et (sq (sq (ev_adopt (b := 4) 3 101 89 3 rfl rfl rfl rfl rfl (rg (xs rfl rfl (nl (et (ev_blk (ev_loop (fun k : Nat => (⟨[(5, iV k), (0, cV (ints l)), (2, pbV 2 0), (3, bV false), (4, pbV 4 0)], [(4, 45, [.c (iC (l[0]'om)), .c (iC (l[1]'om)), .c (iC (l[2]'om)), .rt 101]), (2, 45, [.c (iC 0), .c (iC 0), .c (iC 0), .c .nil])], [(101, 89, 3, ((seenUp l k).map markC))], []⟩ : St)) (fun k => k ≤ 4) (fun k => 4 - k) 0 [] (by simp) ⟨trf, trf, ⟨⟨_, rfl, by rfl⟩, trivial⟩, tre, rfl⟩ ?_))))))))))))))))))))))))))))
  intro k hp
  have p0 := hp
  show Ev _ _ _ _ (⟨[(5, iV k), (0, cV (ints l)), (2, pbV 2 0), (3, bV false), (4, pbV 4 0)], [(4, 45, [.c (iC (l[0]'om)), .c (iC (l[1]'om)), .c (iC (l[2]'om)), .rt 101]), (2, 45, [.c (iC 0), .c (iC 0), .c (iC 0), .c .nil])], [(101, 89, 3, ((seenUp l k).map markC))], []⟩ : St)
  refine sq (sq (rg (xm rfl rfl (xb ttOk rfl rfl (nl (et (ev_cond rfl (fun h2 => ?_) (fun h2 => ?_))))))))
  ·try have d2 := of_decide_eq_true h2
   refine ev_skip (et (sq (ev_blk (sq (ev_drawq [] mo (rk0 0 rfl (q_move rfl) rfl (rk0 1 rfl (q_move rfl) rfl (rk0 2 rfl (q_ar rfl rfl rfl om) rfl (rk0 3 rfl (q_ar rfl rfl rfl om) rfl (rk0 4 rfl (q_ix_map (m := 3 + 2 * k) ttOk rfl rfl rfl om om) rfl (rk0 5 rfl (q_load ttOk rfl) rfl (rk0 6 rfl (q_move rfl) rfl (rk0 7 rfl (q_move rfl) rfl (rk0 8 rfl (q_ar rfl rfl rfl om) rfl (rk0 9 rfl (q_ar rfl rfl rfl om) rfl (rk0 10 rfl (q_ix_map (m := 4 + 2 * k) ttOk rfl rfl rfl om om) rfl (rk0 11 rfl (q_load ttOk rfl) rfl (rk0 12 rfl (q_assign rfl) rfl (rk0 13 rfl (q_assign rfl) rfl (rdk_endq kr (et (sq (rg (xm rfl rfl (xb ttOk rfl rfl (xm rfl rfl (evl_part rfl rfl (fun h3 => ?_) (fun h3 => ?_))))))))))))))))))))))))))))
   ·try have d3 := of_decide_eq_true h3
    refine gn h3 rfl rfl rfl (gn h3 rfl rfl rfl (xo (q_pick_t rfl h3 rfl) rfl (nl (et (ev_cond_kt rfl rfl ?_)))))
    have hsu := seenUp_len l k
    refine rg (xf ttOk rfl rfl (xl ttOk rfl rfl (xm rfl rfl (xa rfl rfl rfl om rfl (xm rfl rfl (xm rfl rfl (xo (q_build ttOk rfl) rfl (evl_e (e_lit ttOk rfl rfl rfl) (evl_e (e_app ttOk rfl rfl rfl rfl rfl rfl rfl (by first | (simp; done) | (simp; omega)) rfl rfl) (xf ttOk rfl rfl (xst ttOk rfl rfl (nl (eb (et (rg (xm rfl rfl (xa rfl rfl rfl om rfl (xs rfl rfl (nl (eve_round (k + 1) [(101, 52)] ?hp ⟨trf, trf, ⟨⟨_, rfl, by exact slot_some om om (by first | exact .inl ‹_› | exact .inr ‹_›)⟩, trivial⟩, tre, rfl⟩))))))))))))))))))))
    case hp => exact ⟨by omega, by omega⟩
   ·try have d3 := of_decide_eq_false h3
    refine gm h3 rfl rfl rfl rfl (go h3 rfl rfl (q_bin ttOk rfl) rfl (xo (q_pick_f rfl h3 rfl) rfl (nl (et (ev_cond rfl (fun h4 => ?_) (fun h4 => ?_))))))
    ·try have d4 := of_decide_eq_true h4
     have hsu := seenUp_len l k
     refine rg (xf ttOk rfl rfl (xl ttOk rfl rfl (xm rfl rfl (xa rfl rfl rfl om rfl (xm rfl rfl (xm rfl rfl (xo (q_build ttOk rfl) rfl (evl_e (e_lit ttOk rfl rfl rfl) (evl_e (e_app ttOk rfl rfl rfl rfl rfl rfl rfl (by first | (simp; done) | (simp; omega)) rfl rfl) (xf ttOk rfl rfl (xst ttOk rfl rfl (nl (eb (et (rg (xm rfl rfl (xa rfl rfl rfl om rfl (xs rfl rfl (nl (eve_round (k + 1) [(101, 52)] ?hp ⟨trf, trf, ⟨⟨_, rfl, by exact slot_some om om (by first | exact .inl ‹_› | exact .inr ‹_›)⟩, trivial⟩, tre, rfl⟩))))))))))))))))))))
     case hp => exact ⟨by omega, by omega⟩
    ·try have d4 := of_decide_eq_false h4
     refine ev_skip (eb (et (rg (xm rfl rfl (xa rfl rfl rfl om rfl (xs rfl rfl (nl (eve_round (k + 1) [] ?hp ⟨trf, trf, ⟨⟨_, rfl, by exact slot_none om om om om⟩, trivial⟩, tre, rfl⟩))))))))
     case hp => exact ⟨by omega, by omega⟩
  ·try have d2 := of_decide_eq_false h2
   refine ev_exit (evx_then (evx_then (evx_hit (et (sq (sq ?_))))))
   obtain rfl : k = 4 := by omega
   have hl : l.length = 13 := by omega
   have hhd := headOf_eq hl
   refine ev_drawq [] mo (rk0 0 rfl (q_load ttOk rfl) rfl (rdk_one 1 kr (rdo_call (nm := 55) rfl trivial (cf rfl) (c_HeadOk' ⟨_, _, _, _⟩) (rs_of rfl) rfl rfl rfl (rk0 2 rfl (q_not rfl) rfl (rk0 3 rfl (q_move rfl) rfl (rdk_partn (t := 57) rfl (fun h5 => ?_) (fun h5 => ?_)))))))
   ·try have d5 := of_decide_eq_false h5
    refine rdk_skip 4 rfl kr ⟨_, rfl, .inl ⟨_, rfl, (nt h5)⟩⟩ rfl (rdk_skip 5 rfl kr ⟨_, rfl, .inl ⟨_, rfl, (nt h5)⟩⟩ rfl (rdk_skip 6 rfl kr ⟨_, rfl, .inl ⟨_, rfl, (nt h5)⟩⟩ rfl (rdk_skip 7 rfl kr ⟨_, rfl, .inl ⟨_, rfl, (nt h5)⟩⟩ rfl (rdk_skip 8 rfl kr ⟨_, rfl, .inl ⟨_, rfl, (nt h5)⟩⟩ rfl (rdk_skip 9 rfl kr ⟨_, rfl, .inl ⟨_, rfl, (nt h5)⟩⟩ rfl (rk0 10 rfl (q_pick_t rfl (nt h5) rfl) rfl (rk0 11 rfl (q_move rfl) rfl (rks 12 rfl rfl rfl rfl rfl (rks 13 rfl rfl rfl rfl rfl (rks 14 rfl rfl rfl rfl rfl (rks 15 rfl rfl rfl rfl rfl (rks 16 rfl rfl rfl rfl rfl (rks 17 rfl rfl rfl rfl rfl (rk0 18 rfl (q_pick_t rfl rfl rfl) rfl (rdk_endq kr (et (ev_cond_kt rfl rfl (sq (rg (xo (q_build ttOk rfl) rfl (xst ttOk rfl rfl (xs rfl rfl (nl (et (ev_ret (evr_then (ret_pureN ttOk rfl rfl ?_)))))))))))))))))))))))))))
    rw [rh_no2 (by rw [hhd]; assumption)]; simp [RpLe, L2, RcLe, noHead]
   ·try have d5 := of_decide_eq_true h5
    refine rdk_take 4 rfl kr ⟨_, _, rfl, rfl, (nf h5)⟩ (q_move rfl) rfl (rdk_take 5 rfl kr ⟨_, _, rfl, rfl, (nf h5)⟩ (q_ix_map (m := 11) ttOk rfl rfl rfl om om) rfl (rdk_take 6 rfl kr ⟨_, _, rfl, rfl, (nf h5)⟩ (q_load ttOk rfl) rfl (rdk_take 7 rfl kr ⟨_, _, rfl, rfl, (nf h5)⟩ (q_fieldAddr ttOk rfl) rfl (rdk_take 8 rfl kr ⟨_, _, rfl, rfl, (nf h5)⟩ (q_load ttOk rfl) rfl (rdk_take 9 rfl kr ⟨_, _, rfl, rfl, (nf h5)⟩ (q_bin ttOk rfl) rfl (rk0 10 rfl (q_pick_f rfl (nf h5) rfl) rfl (rk0 11 rfl (q_move rfl) rfl (rdk_part (t := 65) rfl (fun h6 => ?_) (fun h6 => ?_)))))))))
    ·try have d6 := of_decide_eq_true h6
     refine rks 12 rfl rfl rfl h6 rfl (rks 13 rfl rfl rfl h6 rfl (rks 14 rfl rfl rfl h6 rfl (rks 15 rfl rfl rfl h6 rfl (rks 16 rfl rfl rfl h6 rfl (rks 17 rfl rfl rfl h6 rfl (rk0 18 rfl (q_pick_t rfl h6 rfl) rfl (rdk_endq kr (et (ev_cond_kt rfl rfl (sq (rg (xo (q_build ttOk rfl) rfl (xst ttOk rfl rfl (xs rfl rfl (nl (et (ev_ret (evr_then (ret_pureN ttOk rfl rfl ?_)))))))))))))))))))
     rw [rh_no3 hl ‹_›]; simp [RpLe, L2, RcLe, noHead]
    ·try have d6 := of_decide_eq_false h6
     refine rkt 12 rfl rfl rfl h6 (q_move rfl) rfl (rkt 13 rfl rfl rfl h6 (q_ix_map (m := 12) ttOk rfl rfl rfl om om) rfl (rkt 14 rfl rfl rfl h6 (q_load ttOk rfl) rfl (rkt 15 rfl rfl rfl h6 (q_fieldAddr ttOk rfl) rfl (rkt 16 rfl rfl rfl h6 (q_load ttOk rfl) rfl (rkt 17 rfl rfl rfl h6 (q_bin ttOk rfl) rfl (rk0 18 rfl (q_pick_f rfl h6 rfl) rfl (rdk_endq kr (et (ev_cond rfl (fun h7 => ?_) (fun h7 => ?_))))))))))
     ·try have d7 := of_decide_eq_true h7
      refine sq (rg (xo (q_build ttOk rfl) rfl (xst ttOk rfl rfl (xs rfl rfl (nl (et (ev_ret (evr_then (ret_pureN ttOk rfl rfl ?_)))))))))
      rw [rh_no4 hl ‹_›]; simp [RpLe, L2, RcLe, noHead]
     ·try have d7 := of_decide_eq_false h7
      refine ev_skip (et (sq (rg (xl ttOk rfl rfl (xst ttOk rfl rfl (xs rfl rfl (nl (et (ev_ret (ret_pure' ttOk rfl rfl ?_))))))))))
      rw [rh_yes hl (by rw [hhd]; assumption) om om, hhd]; rfl
end Go.Proofs.Ytahkjonokeifmaa
