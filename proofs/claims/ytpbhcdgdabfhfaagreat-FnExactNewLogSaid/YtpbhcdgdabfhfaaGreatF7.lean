/- Walks of functions of the program, printed by a program of the prover. -/
import Derived.Test.YtpbhcdgdabfhfaaGreatF6
namespace Go.Proofs.YtpbhcdgdabfhfaaGreat
open Go.ChangeShapes Go.WideShapes Go.ChangeAt Go.RowKit
set_option linter.unusedVariables false
set_option linter.unusedSimpArgs false
set_option maxHeartbeats 1000000
set_option maxRecDepth 100000
attribute [local irreducible] EvL Ev EvE Quiet Eff Pure RDk RDb RDo
def lastW (l : List (Int × List Int)) (x : Int) : Option (List Int) := l.foldl (fun r y => if y.1 = x then some y.2 else r) none
theorem fold_none {x : Int} : ∀ {l : List (Int × List Int)} {r : Option (List Int)}, (∀ y ∈ l, y.1 ≠ x) → l.foldl (fun r y => if y.1 = x then some y.2 else r) r = r
  | [], _, _ => rfl
  | y :: l, r, h => by
    rw [List.foldl_cons, if_neg (h y (by simp))]
    exact fold_none fun z hz => h z (by simp [hz])
theorem lastW_none {l : List (Int × List Int)} {x : Int} (h : ∀ y ∈ l, y.1 ≠ x) : lastW l x = none := fold_none h
theorem lastW_hit {l : List (Int × List Int)} {x : Int} {k : Nat} (hk : k < l.length) (h1 : l[k].1 = x) (h : ∀ y ∈ l.drop (k + 1), y.1 ≠ x) : lastW l x = some l[k].2 := by
  unfold lastW
  conv => lhs; arg 3; rw [← List.take_append_drop k l, List.drop_eq_getElem_cons hk]
  rw [List.foldl_append, List.foldl_cons, if_pos h1, fold_none h]
theorem drop_step {α : Type} {p : α → Prop} {l : List α} {k : Nat} (hk : k < l.length) (h1 : p l[k]) (h : ∀ y ∈ l.drop (k + 1), p y) : ∀ y ∈ l.drop k, p y := by
  rw [List.drop_eq_getElem_cons hk]
  intro y hy
  rcases List.mem_cons.1 hy with rfl | hy
  · exact h1
  · exact h y hy
def readF (d : Disk) (x : Int) : Option (List Int) := if diskOk d && hasAt d x then some ((lastW d.wait x).getD (d.kept.getD x.toNat [])) else none
theorem hasAt_iff {d : Disk} {x : Int} : hasAt d x = true ↔ 0 ≤ x ∧ x < d.kept.length := by simp [hasAt, inB]; omega
theorem read_no1 {d : Disk} {x : Int} (h : diskOk d = false) : readF d x = none := by simp [readF, h]
theorem read_no2 {d : Disk} {x : Int} (h : hasAt d x = false) : readF d x = none := by simp [readF, h]
theorem read_hit {d : Disk} {x : Int} {k : Nat} (h1 : diskOk d = true) (h2 : hasAt d x = true) (hk : k < d.wait.length) (h3 : d.wait[k].1 = x) (h : ∀ y ∈ d.wait.drop (k + 1), y.1 ≠ x) : readF d x = some d.wait[k].2 := by simp [readF, h1, h2, lastW_hit hk h3 h]
theorem read_kept {d : Disk} {x : Int} (h1 : diskOk d = true) (h2 : hasAt d x = true) (hk : x.toNat < d.kept.length) (h : ∀ y ∈ d.wait.drop 0, y.1 ≠ x) : readF d x = some d.kept[x.toNat] := by
  rw [List.drop_zero] at h
  simp [readF, h1, h2, lastW_none h, List.getElem?_eq_getElem hk]
theorem c_ReadAt (d : Disk) (x : Int) : Pure Tryz.prog 220 [many (diskC d), one (iC x)] [one' (intsR 2 ((readF d x).getD [])), one' (RC.v (.bool (readF d x).isSome))] := by
  refine pure_intro (N := 46) Tryz.func220 rfl rfl rfl rfl (fun H w => ?_)
  (repeat refine sq ?_)
  refine rg ?_
  refine evl_e (e_box rfl rfl rfl rfl) ?_
  refine xs rfl rfl ?_
  refine xs rfl rfl ?_
  refine nl ?_
  (repeat first | refine et ?_ | refine eb ?_)
  (repeat refine sq ?_)
  refine rg ?_
  refine xl ttOk rfl rfl ?_
  refine evl_call (nm := 8) (cf rfl) (c_DiskOk _) (rs_of rfl) rfl rfl rfl ?_
  refine xo (q_not rfl) rfl ?_
  refine xm rfl rfl ?_
  refine evl_partn rfl rfl (fun h1 => ?_) (fun h1 => ?_)
  · refine gn (nt h1) rfl rfl rfl ?_
    refine gn (nt h1) rfl rfl rfl ?_
    refine gn (nt h1) rfl rfl rfl ?_
    refine gn (nt h1) rfl rfl rfl ?_
    refine xo (q_pick_t rfl (nt h1) rfl) rfl ?_
    refine nl ?_
    (repeat first | refine et ?_ | refine eb ?_)
    (repeat refine sq ?_)
    refine ev_cond_kt rfl rfl ?_
    (repeat refine sq ?_)
    refine rg ?_
    refine evl_e (e_lit ttOk rfl rfl rfl) ?_
    refine xs rfl rfl ?_
    refine xs rfl rfl ?_
    refine nl ?_
    (repeat first | refine et ?_ | refine eb ?_)
    (repeat refine sq ?_)
    refine ev_ret ?_
    (repeat first | refine evr_then ?_ | refine evr_blk ?_)
    refine ret_pureN ttOk rfl rfl ?_
    rw [read_no1 h1]; simp [RpLe, L2, RcLe]
  · refine go (nf h1) rfl rfl (q_load ttOk rfl) rfl ?_
    refine gm (nf h1) rfl rfl rfl rfl ?_
    refine evl_callg rfl rfl (nf h1) (nm := 13) (cf rfl) (c_l3Has ⟨_, _⟩ _) (rs_of rfl) rfl rfl rfl ?_
    refine go (nf h1) rfl rfl (q_not rfl) rfl ?_
    refine xo (q_pick_f rfl (nf h1) rfl) rfl ?_
    refine nl ?_
    (repeat first | refine et ?_ | refine eb ?_)
    (repeat refine sq ?_)
    refine ev_cond_n rfl (fun h2 => ?_) (fun h2 => ?_)
    · (repeat refine sq ?_)
      refine rg ?_
      refine evl_e (e_lit ttOk rfl rfl rfl) ?_
      refine xs rfl rfl ?_
      refine xs rfl rfl ?_
      refine nl ?_
      (repeat first | refine et ?_ | refine eb ?_)
      (repeat refine sq ?_)
      refine ev_ret ?_
      (repeat first | refine evr_then ?_ | refine evr_blk ?_)
      refine ret_pureN ttOk rfl rfl ?_
      rw [read_no2 h2]; simp [RpLe, L2, RcLe]
    · have hs := diskOk_sizes h1
      have hx : 0 ≤ x ∧ x < d.kept.length := hasAt_iff.1 h2
      (repeat refine sq ?_)
      refine ev_skip ?_
      (repeat first | refine et ?_ | refine eb ?_)
      (repeat refine sq ?_)
      refine rg ?_
      refine xf ttOk rfl rfl ?_
      refine xl ttOk rfl rfl ?_
      refine xo (q_len_map ttOk rfl rfl) rfl ?_
      refine xa rfl rfl rfl (by omega) rfl ?_
      refine xs rfl rfl ?_
      refine nl ?_
      (repeat first | refine et ?_ | refine eb ?_)
      (repeat refine sq ?_)
      refine ev_blk ?_
      (repeat refine sq ?_)
      refine ev_loop (fun i : Nat × Int => (⟨[(6, iV i.2), (2, pbV 2 0), (1, iV x)], [(2, 25, [.c (rows d.kept), .c (writes d.wait)])], [], []⟩ : St)) (fun i => i.1 ≤ d.wait.length ∧ i.2 = (i.1 : Int) - 1 ∧ ∀ y ∈ d.wait.drop i.1, y.1 ≠ x) (fun i => i.1) (d.wait.length, _) [] (⟨by simp, rfl, by simp⟩) ⟨by (repeat first | exact trivial | refine ⟨rfl, ?_⟩), by (repeat first | exact trivial | refine ⟨rfl, ?_⟩), by (repeat first | exact trivial | refine ⟨⟨_, rfl, rfl⟩, ?_⟩), by (repeat first | exact trivial | refine ⟨⟨_, rfl, rfl⟩, ?_⟩), rfl⟩ ?_
      intro i hp
      obtain ⟨k, z⟩ := i
      have hp : k ≤ d.wait.length ∧ z = (k : Int) - 1 ∧ ∀ y ∈ d.wait.drop k, y.1 ≠ x := hp
      obtain ⟨p0, p1, p2⟩ := hp
      show Ev _ _ _ _ (⟨[(6, iV z), (2, pbV 2 0), (1, iV x)], [(2, 25, [.c (rows d.kept), .c (writes d.wait)])], [], []⟩ : St)
      (repeat refine sq ?_)
      refine rg ?_
      refine xm rfl rfl ?_
      refine xb ttOk rfl rfl ?_
      refine nl ?_
      (repeat first | refine et ?_ | refine eb ?_)
      (repeat refine sq ?_)
      refine ev_cond rfl (fun h3 => ?_) (fun h3 => ?_)
      · have d3 := of_decide_eq_true h3
        (repeat refine sq ?_)
        refine ev_skip ?_
        (repeat first | refine et ?_ | refine eb ?_)
        (repeat refine sq ?_)
        refine ev_blk ?_
        (repeat refine sq ?_)
        refine rg ?_
        refine xf ttOk rfl rfl ?_
        refine xl ttOk rfl rfl ?_
        refine xm rfl rfl ?_
        refine xo (q_ix_map (m := k - 1) ttOk rfl rfl rfl (by omega) (by omega)) rfl ?_
        refine xf ttOk rfl rfl ?_
        refine xl ttOk rfl rfl ?_
        refine xm rfl rfl ?_
        refine xb ttOk rfl rfl ?_
        refine nl ?_
        (repeat first | refine et ?_ | refine eb ?_)
        (repeat refine sq ?_)
        refine ev_cond rfl (fun h4 => ?_) (fun h4 => ?_)
        · have d4 := of_decide_eq_true h4
          (repeat refine sq ?_)
          have hl := wait_len h1 (k := k - 1) (by omega)
          refine rg ?_
          refine xf ttOk rfl rfl ?_
          refine xl ttOk rfl rfl ?_
          refine xm rfl rfl ?_
          refine xo (q_ix_map (m := k - 1) ttOk rfl rfl rfl (by omega) (by omega)) rfl ?_
          refine xf ttOk rfl rfl ?_
          refine xl ttOk rfl rfl ?_
          refine evl_call (nm := 39) (cf rfl) (c_l1Copy _ (by omega)) (rs_of rfl) rfl rfl rfl ?_
          refine xs rfl rfl ?_
          refine xs rfl rfl ?_
          refine nl ?_
          (repeat first | refine et ?_ | refine eb ?_)
          (repeat refine sq ?_)
          refine ev_ret ?_
          (repeat first | refine evr_then ?_ | refine evr_blk ?_)
          refine ret_pure' ttOk rfl rfl ?_
          rw [read_hit (k := k - 1) h1 h2 (by omega) d4 (by rw [show k - 1 + 1 = k by omega]; exact p2)]; rfl
        · have d4 := of_decide_eq_false h4
          (repeat refine sq ?_)
          refine ev_skip ?_
          (repeat first | refine et ?_ | refine eb ?_)
          (repeat refine sq ?_)
          refine rg ?_
          refine xm rfl rfl ?_
          refine xa rfl rfl rfl (by omega) rfl ?_
          refine xs rfl rfl ?_
          refine nl ?_
          (repeat first | refine et ?_ | refine eb ?_)
          (repeat first | refine et ?_ | refine eb ?_)
          refine eve_round (k - 1, _) [] ?hp ⟨by (repeat first | exact trivial | refine ⟨rfl, ?_⟩), by (repeat first | exact trivial | refine ⟨rfl, ?_⟩), by (repeat first | exact trivial | refine ⟨⟨_, rfl, rfl⟩, ?_⟩), by (repeat first | exact trivial | refine ⟨⟨_, rfl, rfl⟩, ?_⟩), rfl⟩
          case hp => exact ⟨⟨by omega, by omega, drop_step (by omega) d4 (by rw [show k - 1 + 1 = k by omega]; exact p2)⟩, by omega⟩
      · have d3 := of_decide_eq_false h3
        (repeat refine sq ?_)
        refine ev_exit ?_
        (repeat first | refine evx_then ?_ | refine evx_hit ?_ | refine evx_miss rfl ?_)
        (repeat first | refine et ?_ | refine eb ?_)
        (repeat refine sq ?_)
        have hl := kept_len h1 (k := x.toNat) (by omega)
        refine rg ?_
        refine xf ttOk rfl rfl ?_
        refine xl ttOk rfl rfl ?_
        refine xm rfl rfl ?_
        refine xo (q_ix_map (m := x.toNat) ttOk rfl rfl rfl (by omega) (by omega)) rfl ?_
        refine xl ttOk rfl rfl ?_
        refine evl_call (nm := 45) (cf rfl) (c_l1Copy _ (by omega)) (rs_of rfl) rfl rfl rfl ?_
        refine xs rfl rfl ?_
        refine xs rfl rfl ?_
        refine nl ?_
        (repeat first | refine et ?_ | refine eb ?_)
        (repeat refine sq ?_)
        refine ev_ret ?_
        (repeat first | refine evr_then ?_ | refine evr_blk ?_)
        refine ret_pure' ttOk rfl rfl ?_
        obtain rfl : k = 0 := by omega
        rw [read_kept h1 h2 (by omega) p2]; rfl
theorem c_ReadAt' (d : Disk) (x : Int) : Pure Tryz.prog 227 [many (diskC d), one (iC x)] [one' (intsR 2 ((readF d x).getD [])), one' (RC.v (.bool (readF d x).isSome))] := by
  refine pure_intro (N := 45) Tryz.func227 rfl rfl rfl rfl (fun H w => ?_)
  (repeat refine sq ?_)
  refine rg ?_
  refine evl_e (e_box rfl rfl rfl rfl) ?_
  refine xs rfl rfl ?_
  refine xs rfl rfl ?_
  refine nl ?_
  (repeat first | refine et ?_ | refine eb ?_)
  (repeat refine sq ?_)
  refine rg ?_
  refine xl ttOk rfl rfl ?_
  refine evl_call (nm := 8) (cf rfl) (c_DiskOk' _) (rs_of rfl) rfl rfl rfl ?_
  refine xo (q_not rfl) rfl ?_
  refine xm rfl rfl ?_
  refine evl_partn rfl rfl (fun h1 => ?_) (fun h1 => ?_)
  · refine gn (nt h1) rfl rfl rfl ?_
    refine gn (nt h1) rfl rfl rfl ?_
    refine gn (nt h1) rfl rfl rfl ?_
    refine gn (nt h1) rfl rfl rfl ?_
    refine xo (q_pick_t rfl (nt h1) rfl) rfl ?_
    refine nl ?_
    (repeat first | refine et ?_ | refine eb ?_)
    (repeat refine sq ?_)
    refine ev_cond_kt rfl rfl ?_
    (repeat refine sq ?_)
    refine rg ?_
    refine xs rfl rfl ?_
    refine xs rfl rfl ?_
    refine nl ?_
    (repeat first | refine et ?_ | refine eb ?_)
    (repeat refine sq ?_)
    refine ev_ret ?_
    (repeat first | refine evr_then ?_ | refine evr_blk ?_)
    refine ret_pureN ttOk rfl rfl ?_
    rw [read_no1 h1]; simp [RpLe, L2, RcLe]
  · refine go (nf h1) rfl rfl (q_load ttOk rfl) rfl ?_
    refine gm (nf h1) rfl rfl rfl rfl ?_
    refine evl_callg rfl rfl (nf h1) (nm := 13) (cf rfl) (c_sectorOk ⟨_, _⟩ _) (rs_of rfl) rfl rfl rfl ?_
    refine go (nf h1) rfl rfl (q_not rfl) rfl ?_
    refine xo (q_pick_f rfl (nf h1) rfl) rfl ?_
    refine nl ?_
    (repeat first | refine et ?_ | refine eb ?_)
    (repeat refine sq ?_)
    refine ev_cond_n rfl (fun h2 => ?_) (fun h2 => ?_)
    · (repeat refine sq ?_)
      refine rg ?_
      refine xs rfl rfl ?_
      refine xs rfl rfl ?_
      refine nl ?_
      (repeat first | refine et ?_ | refine eb ?_)
      (repeat refine sq ?_)
      refine ev_ret ?_
      (repeat first | refine evr_then ?_ | refine evr_blk ?_)
      refine ret_pureN ttOk rfl rfl ?_
      rw [read_no2 h2]; simp [RpLe, L2, RcLe]
    · have hs := diskOk_sizes h1
      have hx : 0 ≤ x ∧ x < d.kept.length := hasAt_iff.1 h2
      (repeat refine sq ?_)
      refine ev_skip ?_
      (repeat first | refine et ?_ | refine eb ?_)
      (repeat refine sq ?_)
      refine rg ?_
      refine xf ttOk rfl rfl ?_
      refine xl ttOk rfl rfl ?_
      refine xo (q_len_map ttOk rfl rfl) rfl ?_
      refine xa rfl rfl rfl (by omega) rfl ?_
      refine xs rfl rfl ?_
      refine nl ?_
      (repeat first | refine et ?_ | refine eb ?_)
      (repeat refine sq ?_)
      refine ev_blk ?_
      (repeat refine sq ?_)
      refine ev_loop (fun i : Nat × Int => (⟨[(6, iV i.2), (2, pbV 2 0), (1, iV x)], [(2, 25, [.c (rows d.kept), .c (writes d.wait)])], [], []⟩ : St)) (fun i => i.1 ≤ d.wait.length ∧ i.2 = (i.1 : Int) - 1 ∧ ∀ y ∈ d.wait.drop i.1, y.1 ≠ x) (fun i => i.1) (d.wait.length, _) [] (⟨by simp, rfl, by simp⟩) ⟨by (repeat first | exact trivial | refine ⟨rfl, ?_⟩), by (repeat first | exact trivial | refine ⟨rfl, ?_⟩), by (repeat first | exact trivial | refine ⟨⟨_, rfl, rfl⟩, ?_⟩), by (repeat first | exact trivial | refine ⟨⟨_, rfl, rfl⟩, ?_⟩), rfl⟩ ?_
      intro i hp
      obtain ⟨k, z⟩ := i
      have hp : k ≤ d.wait.length ∧ z = (k : Int) - 1 ∧ ∀ y ∈ d.wait.drop k, y.1 ≠ x := hp
      obtain ⟨p0, p1, p2⟩ := hp
      show Ev _ _ _ _ (⟨[(6, iV z), (2, pbV 2 0), (1, iV x)], [(2, 25, [.c (rows d.kept), .c (writes d.wait)])], [], []⟩ : St)
      (repeat refine sq ?_)
      refine rg ?_
      refine xm rfl rfl ?_
      refine xb ttOk rfl rfl ?_
      refine nl ?_
      (repeat first | refine et ?_ | refine eb ?_)
      (repeat refine sq ?_)
      refine ev_cond rfl (fun h3 => ?_) (fun h3 => ?_)
      · have d3 := of_decide_eq_true h3
        (repeat refine sq ?_)
        refine ev_skip ?_
        (repeat first | refine et ?_ | refine eb ?_)
        (repeat refine sq ?_)
        refine ev_blk ?_
        (repeat refine sq ?_)
        refine rg ?_
        refine xf ttOk rfl rfl ?_
        refine xl ttOk rfl rfl ?_
        refine xm rfl rfl ?_
        refine xo (q_ix_map (m := k - 1) ttOk rfl rfl rfl (by omega) (by omega)) rfl ?_
        refine xf ttOk rfl rfl ?_
        refine xl ttOk rfl rfl ?_
        refine xm rfl rfl ?_
        refine xb ttOk rfl rfl ?_
        refine nl ?_
        (repeat first | refine et ?_ | refine eb ?_)
        (repeat refine sq ?_)
        refine ev_cond rfl (fun h4 => ?_) (fun h4 => ?_)
        · have d4 := of_decide_eq_true h4
          (repeat refine sq ?_)
          have hl := wait_len h1 (k := k - 1) (by omega)
          refine rg ?_
          refine xf ttOk rfl rfl ?_
          refine xl ttOk rfl rfl ?_
          refine xm rfl rfl ?_
          refine xo (q_ix_map (m := k - 1) ttOk rfl rfl rfl (by omega) (by omega)) rfl ?_
          refine xf ttOk rfl rfl ?_
          refine xl ttOk rfl rfl ?_
          refine evl_call (nm := 38) (cf rfl) (c_copyRow _ (by omega)) (rs_of rfl) rfl rfl rfl ?_
          refine xs rfl rfl ?_
          refine xs rfl rfl ?_
          refine nl ?_
          (repeat first | refine et ?_ | refine eb ?_)
          (repeat refine sq ?_)
          refine ev_ret ?_
          (repeat first | refine evr_then ?_ | refine evr_blk ?_)
          refine ret_pure' ttOk rfl rfl ?_
          rw [read_hit (k := k - 1) h1 h2 (by omega) d4 (by rw [show k - 1 + 1 = k by omega]; exact p2)]; rfl
        · have d4 := of_decide_eq_false h4
          (repeat refine sq ?_)
          refine ev_skip ?_
          (repeat first | refine et ?_ | refine eb ?_)
          (repeat refine sq ?_)
          refine rg ?_
          refine xm rfl rfl ?_
          refine xa rfl rfl rfl (by omega) rfl ?_
          refine xs rfl rfl ?_
          refine nl ?_
          (repeat first | refine et ?_ | refine eb ?_)
          (repeat first | refine et ?_ | refine eb ?_)
          refine eve_round (k - 1, _) [] ?hp ⟨by (repeat first | exact trivial | refine ⟨rfl, ?_⟩), by (repeat first | exact trivial | refine ⟨rfl, ?_⟩), by (repeat first | exact trivial | refine ⟨⟨_, rfl, rfl⟩, ?_⟩), by (repeat first | exact trivial | refine ⟨⟨_, rfl, rfl⟩, ?_⟩), rfl⟩
          case hp => exact ⟨⟨by omega, by omega, drop_step (by omega) d4 (by rw [show k - 1 + 1 = k by omega]; exact p2)⟩, by omega⟩
      · have d3 := of_decide_eq_false h3
        (repeat refine sq ?_)
        refine ev_exit ?_
        (repeat first | refine evx_then ?_ | refine evx_hit ?_ | refine evx_miss rfl ?_)
        (repeat first | refine et ?_ | refine eb ?_)
        (repeat refine sq ?_)
        have hl := kept_len h1 (k := x.toNat) (by omega)
        refine rg ?_
        refine xf ttOk rfl rfl ?_
        refine xl ttOk rfl rfl ?_
        refine xm rfl rfl ?_
        refine xo (q_ix_map (m := x.toNat) ttOk rfl rfl rfl (by omega) (by omega)) rfl ?_
        refine xl ttOk rfl rfl ?_
        refine evl_call (nm := 44) (cf rfl) (c_copyRow _ (by omega)) (rs_of rfl) rfl rfl rfl ?_
        refine xs rfl rfl ?_
        refine xs rfl rfl ?_
        refine nl ?_
        (repeat first | refine et ?_ | refine eb ?_)
        (repeat refine sq ?_)
        refine ev_ret ?_
        (repeat first | refine evr_then ?_ | refine evr_blk ?_)
        refine ret_pure' ttOk rfl rfl ?_
        obtain rfl : k = 0 := by omega
        rw [read_kept h1 h2 (by omega) p2]; rfl
theorem c_disks (x1 x2 x3 x4 : Value) : Pure Tryz.prog 183 [many [.v x1, .v x2, .v x3, .v x4]] [many' [.v x1, .v x2, .v x3, .v x4]] := by
  refine pure_intro (N := 8) Tryz.func183 rfl rfl rfl rfl (fun H w => ?_)
  (repeat refine sq ?_)
  refine rg ?_
  refine evl_e (e_box rfl rfl rfl rfl) ?_
  refine evl_e (e_alloc ttOk rfl rfl rfl rfl) ?_
  refine nl ?_
  (repeat first | refine et ?_ | refine eb ?_)
  (repeat refine sq ?_)
  refine rg ?_
  refine xf ttOk rfl rfl ?_
  refine xl ttOk rfl rfl ?_
  refine xf ttOk rfl rfl ?_
  refine xl ttOk rfl rfl ?_
  refine xo (q_build ttOk rfl) rfl ?_
  refine xst ttOk rfl ?_ rfl
  refine nl ?_
  (repeat first | refine et ?_ | refine eb ?_)
  (repeat refine sq ?_)
  refine ev_ret ?_
  (repeat first | refine evr_then ?_ | refine evr_blk ?_)
  refine ret_pure' ttOk rfl rfl ?_
  rfl
theorem c_twoOf (x1 x2 x3 x4 : Value) : Pure Tryz.prog 185 [many [.v x1, .v x2, .v x3, .v x4]] [many' [.v x1, .v x2, .v x3, .v x4]] := by
  refine pure_intro (N := 8) Tryz.func185 rfl rfl rfl rfl (fun H w => ?_)
  (repeat refine sq ?_)
  refine rg ?_
  refine evl_e (e_box rfl rfl rfl rfl) ?_
  refine evl_e (e_alloc ttOk rfl rfl rfl rfl) ?_
  refine nl ?_
  (repeat first | refine et ?_ | refine eb ?_)
  (repeat refine sq ?_)
  refine rg ?_
  refine xo (q_ix_arr 0 ttOk rfl rfl rfl) rfl ?_
  refine xl ttOk rfl rfl ?_
  refine xo (q_ix_arr 1 ttOk rfl rfl rfl) rfl ?_
  refine xl ttOk rfl rfl ?_
  refine xo (q_build ttOk rfl) rfl ?_
  refine xst ttOk rfl ?_ rfl
  refine nl ?_
  (repeat first | refine et ?_ | refine eb ?_)
  (repeat refine sq ?_)
  refine ev_ret ?_
  (repeat first | refine evr_then ?_ | refine evr_blk ?_)
  refine ret_pure' ttOk rfl rfl ?_
  rfl

end Go.Proofs.YtpbhcdgdabfhfaaGreat
