/- Walks of functions of the program, printed by a program of the prover. -/
import Derived.Test.YtpbhcdgdabfhfaaGreatF24
namespace Go.Proofs.YtpbhcdgdabfhfaaGreat
open Go.ChangeShapes Go.WideShapes Go.ChangeAt Go.RowKit
set_option linter.unusedVariables false
set_option linter.unusedSimpArgs false
set_option maxHeartbeats 1000000
set_option maxRecDepth 100000
attribute [local irreducible] EvL Ev EvE Quiet Eff Pure RDk RDb RDo
def mixT {α : Type} (f g : α → List C) (l : List α) (k : Nat) : List (List C) := (l.take k).map g ++ (l.drop k).map f
theorem mixT_zero {α : Type} (f g : α → List C) (l : List α) : l.map f = mixT f g l 0 := by simp [mixT]
theorem mixT_len {α : Type} {f g : α → List C} {l : List α} {k : Nat} : (mixT f g l k).length = l.length := by simp [mixT]; omega
theorem mixT_at {α : Type} {f g : α → List C} {l : List α} {k : Nat} (hk : k < l.length) : (mixT f g l k)[k]? = some (f l[k]) := by
  unfold mixT
  rw [List.getElem?_append_right (by simp; omega), List.length_map, List.length_take, Nat.min_eq_left (by omega), Nat.sub_self, List.drop_eq_getElem_cons hk]
  rfl
theorem mixT_set {α : Type} {f g : α → List C} {l : List α} {k : Nat} (hk : k < l.length) : mixT f g l (k + 1) = (mixT f g l k).set k (g l[k]) := by
  unfold mixT
  have h1 : ((l.take k).map g).length = k := by simp; omega
  rw [List.set_append_right _ _ (by omega), h1, Nat.sub_self, List.drop_eq_getElem_cons hk, List.take_succ_eq_append_getElem hk]
  simp only [List.map_append, List.map_cons, List.map_nil, List.set_cons_zero, List.append_assoc, List.cons_append, List.nil_append]
@[reducible] def wF (x : Int × List Int) : List C := [iC x.1, ints x.2]
@[reducible] def wH (x : Int × List Int) : List C := [iC x.1, .hole]
def bothSyncF (t : Two) : Two := if twoOk t then ⟨fallF t.a [] true, fallF t.b [] true⟩ else zeroT
theorem bsync_no {t : Two} (h : twoOk t = false) : bothSyncF t = zeroT := by simp [bothSyncF, h]
theorem bsync_yes {t : Two} (h : twoOk t = true) : bothSyncF t = ⟨fallF t.a [] true, fallF t.b [] true⟩ := by simp [bothSyncF, h]
def mendedF (t : Two) (x : Int) (row : List Int) : Two := if (bothWroteF t x row).2 then bothSyncF (bothWroteF t x row).1 else (bothWroteF t x row).1
theorem c_Synced (d : Disk) : Pure Tryz.prog 187 [many (diskC d)] [many' (diskR (fallF d [] true))] := by
  refine pure_intro (N := 10) Tryz.func187 rfl rfl rfl rfl (fun H w => ?_)
  (repeat refine sq ?_)
  refine rg ?_
  refine evl_e (e_box rfl rfl rfl rfl) ?_
  refine evl_e (e_alloc ttOk rfl rfl rfl rfl) ?_
  refine nl ?_
  (repeat first | refine et ?_ | refine eb ?_)
  (repeat refine sq ?_)
  refine rg ?_
  refine xl ttOk rfl rfl ?_
  refine evl_call (nm := 4) (cf rfl) (c_DiskOk d) (rs_of rfl) rfl rfl rfl ?_
  refine xo (q_not rfl) rfl ?_
  refine nl ?_
  (repeat first | refine et ?_ | refine eb ?_)
  (repeat refine sq ?_)
  refine ev_cond_n rfl (fun h1 => ?_) (fun h1 => ?_)
  · (repeat refine sq ?_)
    refine rg ?_
    refine xo (q_build ttOk rfl) rfl ?_
    refine xst ttOk rfl ?_ rfl
    refine nl ?_
    (repeat first | refine et ?_ | refine eb ?_)
    (repeat refine sq ?_)
    refine ev_ret ?_
    (repeat first | refine evr_then ?_ | refine evr_blk ?_)
    refine ret_pureN ttOk rfl rfl ?_
    first
    | (rw [fall_no (by assumption)]; simp [RpLe, L2, RcLe, zeroD]; done)
    | (rw [fall_yes (by assumption)]; simp [RpLe, L2, RcLe]; done)
    | (obtain rfl : k = d.wait.length := by omega
       rw [fall_yes (by assumption)]; simp [RpLe, L2, RcLe]; done)
  · (repeat refine sq ?_)
    refine ev_skip ?_
    (repeat first | refine et ?_ | refine eb ?_)
    (repeat refine sq ?_)
    refine rg ?_
    refine xl ttOk rfl rfl ?_
    refine evl_e (e_lit ttOk rfl rfl rfl) ?_
    refine evl_call (nm := 9) (cf rfl) (c_l3Fall d [] true (by assumption)) (rs_of rfl) rfl rfl rfl ?_
    refine xst ttOk rfl ?_ rfl
    refine nl ?_
    (repeat first | refine et ?_ | refine eb ?_)
    (repeat refine sq ?_)
    refine ev_ret ?_
    (repeat first | refine evr_then ?_ | refine evr_blk ?_)
    refine ret_pureN ttOk rfl rfl ?_
    first
    | (rw [fall_no (by assumption)]; simp [RpLe, L2, RcLe, zeroD]; done)
    | (rw [fall_yes (by assumption)]; simp [RpLe, L2, RcLe]; done)
    | (obtain rfl : k = d.wait.length := by omega
       rw [fall_yes (by assumption)]; simp [RpLe, L2, RcLe]; done)
theorem c_Fallen (d : Disk) (F : List Int) : Pure Tryz.prog 181 [many (diskC d), one (ints F)] [many' (diskR (fallF d F false))] := by
  refine pure_intro (N := 12) Tryz.func181 rfl rfl rfl rfl (fun H w => ?_)
  (repeat refine sq ?_)
  refine rg ?_
  refine evl_e (e_box rfl rfl rfl rfl) ?_
  refine evl_e (e_alloc ttOk rfl rfl rfl rfl) ?_
  refine nl ?_
  (repeat first | refine et ?_ | refine eb ?_)
  (repeat refine sq ?_)
  refine rg ?_
  refine xl ttOk rfl rfl ?_
  refine evl_call (nm := 6) (cf rfl) (c_DiskOk d) (rs_of rfl) rfl rfl rfl ?_
  refine xo (q_not rfl) rfl ?_
  refine nl ?_
  (repeat first | refine et ?_ | refine eb ?_)
  (repeat refine sq ?_)
  refine ev_cond_n rfl (fun h1 => ?_) (fun h1 => ?_)
  · (repeat refine sq ?_)
    refine rg ?_
    refine xo (q_build ttOk rfl) rfl ?_
    refine xst ttOk rfl ?_ rfl
    refine nl ?_
    (repeat first | refine et ?_ | refine eb ?_)
    (repeat refine sq ?_)
    refine ev_ret ?_
    (repeat first | refine evr_then ?_ | refine evr_blk ?_)
    refine ret_pureN ttOk rfl rfl ?_
    first
    | (rw [fall_no (by assumption)]; simp [RpLe, L2, RcLe, zeroD]; done)
    | (rw [fall_yes (by assumption)]; simp [RpLe, L2, RcLe]; done)
    | (obtain rfl : k = d.wait.length := by omega
       rw [fall_yes (by assumption)]; simp [RpLe, L2, RcLe]; done)
  · (repeat refine sq ?_)
    refine ev_skip ?_
    (repeat first | refine et ?_ | refine eb ?_)
    (repeat refine sq ?_)
    refine rg ?_
    refine xl ttOk rfl rfl ?_
    refine xm rfl rfl ?_
    refine evl_call (nm := 11) (cf rfl) (c_l3Fall d F false (by assumption)) (rs_of rfl) rfl rfl rfl ?_
    refine xst ttOk rfl ?_ rfl
    refine nl ?_
    (repeat first | refine et ?_ | refine eb ?_)
    (repeat refine sq ?_)
    refine ev_ret ?_
    (repeat first | refine evr_then ?_ | refine evr_blk ?_)
    refine ret_pureN ttOk rfl rfl ?_
    first
    | (rw [fall_no (by assumption)]; simp [RpLe, L2, RcLe, zeroD]; done)
    | (rw [fall_yes (by assumption)]; simp [RpLe, L2, RcLe]; done)
    | (obtain rfl : k = d.wait.length := by omega
       rw [fall_yes (by assumption)]; simp [RpLe, L2, RcLe]; done)
theorem c_Synced' (d : Disk) : Pure Tryz.prog 192 [many (diskC d)] [many' (diskR (fallF d [] true))] := by
  refine pure_intro (N := 29) Tryz.func192 rfl rfl rfl rfl (fun H w => ?_)
  (repeat refine sq ?_)
  refine rg ?_
  refine evl_e (e_box rfl rfl rfl rfl) ?_
  refine evl_e (e_alloc ttOk rfl rfl rfl rfl) ?_
  refine nl ?_
  (repeat first | refine et ?_ | refine eb ?_)
  (repeat refine sq ?_)
  refine rg ?_
  first | refine xo (q_load_pr ttOk rfl rfl rfl rfl (mixT_at (by omega)) rfl rfl) rfl ?_ | refine xo (q_load_pr ttOk rfl rfl rfl rfl (get_map (by omega)) rfl rfl) rfl ?_ | refine xl ttOk rfl rfl ?_
  refine evl_call (nm := 7) (cf rfl) (c_DiskOk' d) (rs_of rfl) rfl rfl rfl ?_
  refine xo (q_not rfl) rfl ?_
  refine nl ?_
  (repeat first | refine et ?_ | refine eb ?_)
  (repeat refine sq ?_)
  refine ev_cond_n rfl (fun h1 => ?_) (fun h1 => ?_)
  · try have d1 := of_decide_eq_false h1
    (repeat refine sq ?_)
    refine rg ?_
    refine xo (q_build ttOk rfl) rfl ?_
    refine xst ttOk rfl ?_ rfl
    refine nl ?_
    (repeat first | refine et ?_ | refine eb ?_)
    (repeat refine sq ?_)
    refine ev_ret ?_
    (repeat first | refine evr_then ?_ | refine evr_blk ?_)
    refine ret_pureN ttOk rfl rfl ?_
    first
    | (rw [fall_no (by assumption)]; simp [RpLe, L2, RcLe, zeroD]; done)
    | (rw [fall_yes (by assumption)]; simp [RpLe, L2, RcLe]; done)
    | (obtain rfl : k = d.wait.length := by omega
       rw [fall_yes (by assumption)]; simp [RpLe, L2, RcLe]; done)
  · try have d1 := of_decide_eq_true h1
    have hs := diskOk_sizes h1
    (repeat refine sq ?_)
    refine ev_skip ?_
    (repeat first | refine et ?_ | refine eb ?_)
    (repeat refine sq ?_)
    refine rg ?_
    first | refine xo (q_load_pr ttOk rfl rfl rfl rfl (mixT_at (by omega)) rfl rfl) rfl ?_ | refine xo (q_load_pr ttOk rfl rfl rfl rfl (get_map (by omega)) rfl rfl) rfl ?_ | refine xl ttOk rfl rfl ?_
    refine evl_call (nm := 11) (cf rfl) (c_copyDisk d (by assumption)) (rs_of rfl) rfl rfl rfl ?_
    refine evl_e (e_alloc ttOk rfl rfl rfl rfl) ?_
    refine xst ttOk rfl ?_ rfl
    refine nl ?_
    (repeat first | refine et ?_ | refine eb ?_)
    (repeat refine sq ?_)
    refine rg ?_
    refine xf ttOk rfl rfl ?_
    first | refine xo (q_load_pr ttOk rfl rfl rfl rfl (mixT_at (by omega)) rfl rfl) rfl ?_ | refine xo (q_load_pr ttOk rfl rfl rfl rfl (get_map (by omega)) rfl rfl) rfl ?_ | refine xl ttOk rfl rfl ?_
    first | refine xo (q_len_rtm ttOk rfl rfl rfl) rfl ?_ | refine xo (q_len_map ttOk rfl rfl) rfl ?_
    refine xm rfl rfl ?_
    refine nl ?_
    (repeat first | refine et ?_ | refine eb ?_)
    (repeat refine sq ?_)
    refine ev_blk ?_
    (repeat refine sq ?_)
    refine ev_loop (fun k : Nat => (⟨[(15, iV k), (14, iV d.wait.length), (13, .p false [.rt 102]), (1, pbV 1 0), (2, pbV 2 0), (3, pbV 3 0)], [(3, 25, [.rt 101, .rt 102]), (2, 25, [.c .nil, .c .nil]), (1, 25, [.c (rows d.kept), .c (writes d.wait)])], [(101, 80, 1, ((fallUp d [] true k).map fun r => [ints r])), (102, 214, 2, mixT wF wH d.wait k)], []⟩ : St)) (fun k => k ≤ d.wait.length) (fun k => d.wait.length - k) 0 [(101, 11), (102, 1011)] (by simp) ⟨by (repeat first | exact trivial | refine ⟨rfl, ?_⟩), by (repeat first | exact trivial | refine ⟨rfl, ?_⟩), ⟨⟨_, rfl, by rfl⟩, ⟨_, rfl, by exact mixT_zero _ _ _⟩, trivial⟩, by (repeat first | exact trivial | refine ⟨⟨_, rfl, rfl⟩, ?_⟩), rfl⟩ ?_
    intro k hp
    have p0 := hp
    show Ev _ _ _ _ (⟨[(15, iV k), (14, iV d.wait.length), (13, .p false [.rt 102]), (1, pbV 1 0), (2, pbV 2 0), (3, pbV 3 0)], [(3, 25, [.rt 101, .rt 102]), (2, 25, [.c .nil, .c .nil]), (1, 25, [.c (rows d.kept), .c (writes d.wait)])], [(101, 80, 1, ((fallUp d [] true k).map fun r => [ints r])), (102, 214, 2, mixT wF wH d.wait k)], []⟩ : St)
    (repeat refine sq ?_)
    refine rg ?_
    refine xb ttOk rfl rfl ?_
    refine nl ?_
    (repeat first | refine et ?_ | refine eb ?_)
    (repeat refine sq ?_)
    refine ev_cond rfl (fun h2 => ?_) (fun h2 => ?_)
    · try have d2 := of_decide_eq_true h2
      (repeat refine sq ?_)
      refine ev_skip ?_
      (repeat first | refine et ?_ | refine eb ?_)
      (repeat refine sq ?_)
      refine ev_blk ?_
      (repeat refine sq ?_)
      have hx := wait_at (by assumption) (k := k) (by omega)
      have hl := fallUp_len d [] true k
      have hrw := fallUp_rows (by assumption) [] true k (by omega)
      have hM : (mixT wF wH d.wait k).length = d.wait.length := mixT_len
      refine rg ?_
      refine xo (q_ix_rt (m := k) ttOk rfl rfl rfl rfl rfl rfl (by rw [hM]; omega)) rfl ?_
      first | refine xo (q_load_pr ttOk rfl rfl rfl rfl (mixT_at (by omega)) rfl rfl) rfl ?_ | refine xo (q_load_pr ttOk rfl rfl rfl rfl (get_map (by omega)) rfl rfl) rfl ?_ | refine xl ttOk rfl rfl ?_
      refine evl_e (e_alloc ttOk rfl rfl rfl rfl) ?_
      refine xst ttOk rfl ?_ rfl
      refine nl ?_
      (repeat first | refine et ?_ | refine eb ?_)
      (repeat refine sq ?_)
      refine rg ?_
      refine xf ttOk rfl rfl ?_
      first | refine xo (q_load_pr ttOk rfl rfl rfl rfl (mixT_at (by omega)) rfl rfl) rfl ?_ | refine xo (q_load_pr ttOk rfl rfl rfl rfl (get_map (by omega)) rfl rfl) rfl ?_ | refine xl ttOk rfl rfl ?_
      refine xf ttOk rfl rfl ?_
      first | refine xo (q_load_pr ttOk rfl rfl rfl rfl (mixT_at (by omega)) rfl rfl) rfl ?_ | refine xo (q_load_pr ttOk rfl rfl rfl rfl (get_map (by omega)) rfl rfl) rfl ?_ | refine xl ttOk rfl rfl ?_
      refine xf ttOk rfl rfl ?_
      first | refine xo (q_load_pr ttOk rfl rfl rfl rfl (mixT_at (by omega)) rfl rfl) rfl ?_ | refine xo (q_load_pr ttOk rfl rfl rfl rfl (get_map (by omega)) rfl rfl) rfl ?_ | refine xl ttOk rfl rfl ?_
      refine xo (q_ix_rt (m := (d.wait[k]'(by omega)).1.toNat) ttOk rfl rfl rfl rfl rfl (by omega) (by rw [List.length_map]; omega)) rfl ?_
      refine evl_take 24 24 rfl rfl rfl (mixT_at (by omega)) rfl (mixT_set (f := wF) (g := wH) (l := d.wait) (by omega)) rfl rfl (fun ty' => ?_)
      refine evl_e (eff_flt 101 (e_st_pr ttOk rfl rfl rfl rfl rfl rfl rfl (get_map (by omega)) rfl rfl rfl rfl rfl)) ?_
      refine nl ?_
      (repeat first | refine et ?_ | refine eb ?_)
      (repeat refine sq ?_)
      refine rg ?_
      refine xa rfl rfl rfl (by omega) rfl ?_
      refine xm rfl rfl ?_
      refine nl ?_
      (repeat first | refine et ?_ | refine eb ?_)
      (repeat first | refine et ?_ | refine eb ?_)
      refine eve_round (k + 1) [] ?hp ⟨by (repeat first | exact trivial | refine ⟨rfl, ?_⟩), by (repeat first | exact trivial | refine ⟨rfl, ?_⟩), ⟨⟨_, rfl, by (first | (exact fall_kept (by omega) (by simp_all)) | (exfalso; simp_all; done))⟩, ⟨_, rfl, by rfl⟩, trivial⟩, by (repeat first | exact trivial | refine ⟨⟨_, rfl, rfl⟩, ?_⟩), rfl⟩
      case hp => exact ⟨by omega, by omega⟩
    · try have d2 := of_decide_eq_false h2
      (repeat refine sq ?_)
      refine ev_exit ?_
      (repeat first | refine evx_then ?_ | refine evx_hit ?_ | refine evx_miss rfl ?_)
      (repeat first | refine et ?_ | refine eb ?_)
      (repeat refine sq ?_)
      refine rg ?_
      refine xf ttOk rfl rfl ?_
      refine xst ttOk rfl ?_ rfl
      refine nl ?_
      (repeat first | refine et ?_ | refine eb ?_)
      (repeat refine sq ?_)
      refine rg ?_
      first | refine xo (q_load_pr ttOk rfl rfl rfl rfl (mixT_at (by omega)) rfl rfl) rfl ?_ | refine xo (q_load_pr ttOk rfl rfl rfl rfl (get_map (by omega)) rfl rfl) rfl ?_ | refine xl ttOk rfl rfl ?_
      refine xst ttOk rfl ?_ rfl
      refine nl ?_
      (repeat first | refine et ?_ | refine eb ?_)
      (repeat refine sq ?_)
      refine ev_ret ?_
      (repeat first | refine evr_then ?_ | refine evr_blk ?_)
      refine ret_pureN ttOk rfl rfl ?_
      first
      | (rw [fall_no (by assumption)]; simp [RpLe, L2, RcLe, zeroD]; done)
      | (rw [fall_yes (by assumption)]; simp [RpLe, L2, RcLe]; done)
      | (obtain rfl : k = d.wait.length := by omega
         rw [fall_yes (by assumption)]; simp [RpLe, L2, RcLe]; done)
theorem c_Fallen' (d : Disk) (F : List Int) : Pure Tryz.prog 184 [many (diskC d), one (ints F)] [many' (diskR (fallF d F false))] := by
  refine pure_intro (N := 57) Tryz.func184 rfl rfl rfl rfl (fun H w => ?_)
  refine ev_lenm (t := 1) rfl (fun hL => ?_)
  (repeat refine sq ?_)
  refine rg ?_
  refine evl_e (e_box rfl rfl rfl rfl) ?_
  refine evl_e (e_alloc ttOk rfl rfl rfl rfl) ?_
  refine nl ?_
  (repeat first | refine et ?_ | refine eb ?_)
  (repeat refine sq ?_)
  refine rg ?_
  first | refine xo (q_load_pr ttOk rfl rfl rfl rfl (mixT_at (by omega)) rfl rfl) rfl ?_ | refine xo (q_load_pr ttOk rfl rfl rfl rfl (get_map (by omega)) rfl rfl) rfl ?_ | refine xl ttOk rfl rfl ?_
  refine evl_call (nm := 11) (cf rfl) (c_DiskOk' d) (rs_of rfl) rfl rfl rfl ?_
  refine xo (q_not rfl) rfl ?_
  refine nl ?_
  (repeat first | refine et ?_ | refine eb ?_)
  (repeat refine sq ?_)
  refine ev_cond_n rfl (fun h1 => ?_) (fun h1 => ?_)
  · try have d1 := of_decide_eq_false h1
    (repeat refine sq ?_)
    refine rg ?_
    refine xo (q_build ttOk rfl) rfl ?_
    refine xst ttOk rfl ?_ rfl
    refine nl ?_
    (repeat first | refine et ?_ | refine eb ?_)
    (repeat refine sq ?_)
    refine ev_ret ?_
    (repeat first | refine evr_then ?_ | refine evr_blk ?_)
    refine ret_pureN ttOk rfl rfl ?_
    first
    | (rw [fall_no (by assumption)]; simp [RpLe, L2, RcLe, zeroD]; done)
    | (rw [fall_yes (by assumption)]; simp [RpLe, L2, RcLe]; done)
    | (obtain rfl : k = d.wait.length := by omega
       rw [fall_yes (by assumption)]; simp [RpLe, L2, RcLe]; done)
  · try have d1 := of_decide_eq_true h1
    have hs := diskOk_sizes h1
    (repeat refine sq ?_)
    refine ev_skip ?_
    (repeat first | refine et ?_ | refine eb ?_)
    (repeat refine sq ?_)
    refine rg ?_
    first | refine xo (q_load_pr ttOk rfl rfl rfl rfl (mixT_at (by omega)) rfl rfl) rfl ?_ | refine xo (q_load_pr ttOk rfl rfl rfl rfl (get_map (by omega)) rfl rfl) rfl ?_ | refine xl ttOk rfl rfl ?_
    refine evl_call (nm := 15) (cf rfl) (c_copyDisk d (by assumption)) (rs_of rfl) rfl rfl rfl ?_
    refine evl_e (e_alloc ttOk rfl rfl rfl rfl) ?_
    refine xst ttOk rfl ?_ rfl
    refine nl ?_
    (repeat first | refine et ?_ | refine eb ?_)
    (repeat refine sq ?_)
    refine rg ?_
    refine xf ttOk rfl rfl ?_
    first | refine xo (q_load_pr ttOk rfl rfl rfl rfl (mixT_at (by omega)) rfl rfl) rfl ?_ | refine xo (q_load_pr ttOk rfl rfl rfl rfl (get_map (by omega)) rfl rfl) rfl ?_ | refine xl ttOk rfl rfl ?_
    first | refine xo (q_len_rtm ttOk rfl rfl rfl) rfl ?_ | refine xo (q_len_map ttOk rfl rfl) rfl ?_
    refine xm rfl rfl ?_
    refine nl ?_
    (repeat first | refine et ?_ | refine eb ?_)
    (repeat refine sq ?_)
    refine ev_blk ?_
    (repeat refine sq ?_)
    refine ev_loop (fun k : Nat => (⟨[(19, iV k), (18, iV d.wait.length), (17, .p false [.rt 102]), (1, cV (ints F)), (2, pbV 2 0), (4, pbV 4 0), (5, pbV 5 0)], [(5, 25, [.rt 101, .rt 102]), (4, 25, [.c .nil, .c .nil]), (2, 25, [.c (rows d.kept), .c (writes d.wait)])], [(101, 80, 1, ((fallUp d F false k).map fun r => [ints r])), (102, 214, 2, mixT wF wH d.wait k)], []⟩ : St)) (fun k => k ≤ d.wait.length) (fun k => d.wait.length - k) 0 [(101, 15), (102, 1015)] (by simp) ⟨by (repeat first | exact trivial | refine ⟨rfl, ?_⟩), by (repeat first | exact trivial | refine ⟨rfl, ?_⟩), ⟨⟨_, rfl, by rfl⟩, ⟨_, rfl, by exact mixT_zero _ _ _⟩, trivial⟩, by (repeat first | exact trivial | refine ⟨⟨_, rfl, rfl⟩, ?_⟩), rfl⟩ ?_
    intro k hp
    have p0 := hp
    show Ev _ _ _ _ (⟨[(19, iV k), (18, iV d.wait.length), (17, .p false [.rt 102]), (1, cV (ints F)), (2, pbV 2 0), (4, pbV 4 0), (5, pbV 5 0)], [(5, 25, [.rt 101, .rt 102]), (4, 25, [.c .nil, .c .nil]), (2, 25, [.c (rows d.kept), .c (writes d.wait)])], [(101, 80, 1, ((fallUp d F false k).map fun r => [ints r])), (102, 214, 2, mixT wF wH d.wait k)], []⟩ : St)
    (repeat refine sq ?_)
    refine rg ?_
    refine xb ttOk rfl rfl ?_
    refine nl ?_
    (repeat first | refine et ?_ | refine eb ?_)
    (repeat refine sq ?_)
    refine ev_cond rfl (fun h2 => ?_) (fun h2 => ?_)
    · try have d2 := of_decide_eq_true h2
      (repeat refine sq ?_)
      refine ev_skip ?_
      (repeat first | refine et ?_ | refine eb ?_)
      (repeat refine sq ?_)
      refine ev_blk ?_
      (repeat refine sq ?_)
      have hx := wait_at (by assumption) (k := k) (by omega)
      have hl := fallUp_len d F false k
      have hrw := fallUp_rows (by assumption) F false k (by omega)
      have hM : (mixT wF wH d.wait k).length = d.wait.length := mixT_len
      refine rg ?_
      refine xm rfl rfl ?_
      refine xo (q_ix_rt (m := k) ttOk rfl rfl rfl rfl rfl rfl (by rw [hM]; omega)) rfl ?_
      first | refine xo (q_load_pr ttOk rfl rfl rfl rfl (mixT_at (by omega)) rfl rfl) rfl ?_ | refine xo (q_load_pr ttOk rfl rfl rfl rfl (get_map (by omega)) rfl rfl) rfl ?_ | refine xl ttOk rfl rfl ?_
      refine evl_e (e_alloc ttOk rfl rfl rfl rfl) ?_
      refine xs rfl rfl ?_
      refine xst ttOk rfl ?_ rfl
      refine nl ?_
      (repeat first | refine et ?_ | refine eb ?_)
      (repeat refine sq ?_)
      refine rg ?_
      refine xf ttOk rfl rfl ?_
      first | refine xo (q_load_pr ttOk rfl rfl rfl rfl (mixT_at (by omega)) rfl rfl) rfl ?_ | refine xo (q_load_pr ttOk rfl rfl rfl rfl (get_map (by omega)) rfl rfl) rfl ?_ | refine xl ttOk rfl rfl ?_
      refine xs rfl rfl ?_
      refine nl ?_
      (repeat first | refine et ?_ | refine eb ?_)
      (repeat refine sq ?_)
      refine rg ?_
      refine xs rfl rfl ?_
      refine nl ?_
      (repeat first | refine et ?_ | refine eb ?_)
      (repeat refine sq ?_)
      refine rg ?_
      refine xm rfl rfl ?_
      refine xm rfl rfl ?_
      first | refine xo (q_len_rtm ttOk rfl rfl rfl) rfl ?_ | refine xo (q_len_map ttOk rfl rfl) rfl ?_
      refine xb ttOk rfl rfl ?_
      refine nl ?_
      (repeat first | refine et ?_ | refine eb ?_)
      (repeat refine sq ?_)
      refine ev_cond rfl (fun h3 => ?_) (fun h3 => ?_)
      · try have d3 := of_decide_eq_true h3
        have hf := fate_in (F := F) (k := k) (by omega)
        (repeat refine sq ?_)
        refine rg ?_
        refine xm rfl rfl ?_
        refine xm rfl rfl ?_
        refine xo (q_ix_map ttOk rfl rfl rfl rfl (by omega)) rfl ?_
        first | refine xo (q_load_pr ttOk rfl rfl rfl rfl (mixT_at (by omega)) rfl rfl) rfl ?_ | refine xo (q_load_pr ttOk rfl rfl rfl rfl (get_map (by omega)) rfl rfl) rfl ?_ | refine xl ttOk rfl rfl ?_
        refine xs rfl rfl ?_
        refine nl ?_
        (repeat first | refine et ?_ | refine eb ?_)
        (repeat refine sq ?_)
        refine rg ?_
        refine xm rfl rfl ?_
        refine nl ?_
        (repeat first | refine et ?_ | refine eb ?_)
        (repeat refine sq ?_)
        refine ev_blk ?_
        (repeat refine sq ?_)
        refine ev_blk ?_
        (repeat refine sq ?_)
        refine ev_blk ?_
        (repeat refine sq ?_)
        refine rg ?_
        refine xb ttOk rfl rfl ?_
        refine xs rfl rfl ?_
        refine nl ?_
        (repeat first | refine et ?_ | refine eb ?_)
        (repeat refine sq ?_)
        refine ev_cond rfl (fun h4 => ?_) (fun h4 => ?_)
        · try have d4 := of_decide_eq_true h4
          (repeat refine sq ?_)
          refine ev_exit ?_
          (repeat first | refine evx_then ?_ | refine evx_hit ?_ | refine evx_miss rfl ?_)
          (repeat first | refine et ?_ | refine eb ?_)
          (repeat refine sq ?_)
          refine ev_drawq [] mo ?_
          refine rdk_take 0 rfl (by kernel_rfl) trivial (q_fieldAddr ttOk rfl) rfl ?_
          first | refine rdk_take 1 rfl (by kernel_rfl) trivial (q_load_pr ttOk rfl rfl rfl rfl (mixT_at (by omega)) rfl rfl) rfl ?_ | refine rdk_take 1 rfl (by kernel_rfl) trivial (q_load_pr ttOk rfl rfl rfl rfl (get_map (by omega)) rfl rfl) rfl ?_ | refine rdk_take 1 rfl (by kernel_rfl) trivial (q_load ttOk rfl) rfl ?_
          refine rdk_take 2 rfl (by kernel_rfl) trivial (q_fieldAddr ttOk rfl) rfl ?_
          first | refine rdk_take 3 rfl (by kernel_rfl) trivial (q_load_pr ttOk rfl rfl rfl rfl (mixT_at (by omega)) rfl rfl) rfl ?_ | refine rdk_take 3 rfl (by kernel_rfl) trivial (q_load_pr ttOk rfl rfl rfl rfl (get_map (by omega)) rfl rfl) rfl ?_ | refine rdk_take 3 rfl (by kernel_rfl) trivial (q_load ttOk rfl) rfl ?_
          refine rdk_take 4 rfl (by kernel_rfl) trivial (q_fieldAddr ttOk rfl) rfl ?_
          first | refine rdk_take 5 rfl (by kernel_rfl) trivial (q_load_pr ttOk rfl rfl rfl rfl (mixT_at (by omega)) rfl rfl) rfl ?_ | refine rdk_take 5 rfl (by kernel_rfl) trivial (q_load_pr ttOk rfl rfl rfl rfl (get_map (by omega)) rfl rfl) rfl ?_ | refine rdk_take 5 rfl (by kernel_rfl) trivial (q_load ttOk rfl) rfl ?_
          refine rdk_take 6 rfl (by kernel_rfl) trivial (q_ix_rt (m := (d.wait[k]'(by omega)).1.toNat) ttOk rfl rfl rfl rfl rfl (by omega) (by rw [List.length_map]; omega)) rfl ?_
          first | refine rdk_take 7 rfl (by kernel_rfl) trivial (q_load_pr ttOk rfl rfl rfl rfl (mixT_at (by omega)) rfl rfl) rfl ?_ | refine rdk_take 7 rfl (by kernel_rfl) trivial (q_load_pr ttOk rfl rfl rfl rfl (get_map (by omega)) rfl rfl) rfl ?_ | refine rdk_take 7 rfl (by kernel_rfl) trivial (q_load ttOk rfl) rfl ?_
          refine rdk_one 8 (by kernel_rfl) ?_
          refine rdo_call (nm := 47) rfl trivial (cf rfl) (c_torn (d.wait[k]'(by omega)).2 ((fallUp d F false k)[(d.wait[k]'(by omega)).1.toNat]'(by omega)) ⟨by omega, hrw _ (List.getElem_mem _)⟩) (rs_sub_sub rfl rfl (mixT_at (by omega)) rfl rfl rfl (get_map (by omega)) rfl) rfl rfl rfl ?_
          refine rdk_take 9 rfl (by kernel_rfl) trivial (q_assign rfl) rfl ?_
          refine rdk_endq (by kernel_rfl) ?_
          (repeat first | refine et ?_ | refine eb ?_)
          (repeat refine sq ?_)
          refine rg ?_
          refine xf ttOk rfl rfl ?_
          first | refine xo (q_load_pr ttOk rfl rfl rfl rfl (mixT_at (by omega)) rfl rfl) rfl ?_ | refine xo (q_load_pr ttOk rfl rfl rfl rfl (get_map (by omega)) rfl rfl) rfl ?_ | refine xl ttOk rfl rfl ?_
          refine xf ttOk rfl rfl ?_
          first | refine xo (q_load_pr ttOk rfl rfl rfl rfl (mixT_at (by omega)) rfl rfl) rfl ?_ | refine xo (q_load_pr ttOk rfl rfl rfl rfl (get_map (by omega)) rfl rfl) rfl ?_ | refine xl ttOk rfl rfl ?_
          refine xm rfl rfl ?_
          refine xo (q_ix_rt (m := (d.wait[k]'(by omega)).1.toNat) ttOk rfl rfl rfl rfl rfl (by omega) (by rw [List.length_map]; omega)) rfl ?_
          refine evl_e (eff_flt 101 (e_st_pr ttOk rfl rfl rfl rfl rfl rfl rfl (get_map (by omega)) rfl rfl rfl rfl rfl)) ?_
          refine nl ?_
          (repeat first | refine et ?_ | refine eb ?_)
          (repeat refine sq ?_)
          refine ev_exit ?_
          (repeat first | refine evx_then ?_ | refine evx_hit ?_ | refine evx_miss rfl ?_)
          (repeat first | refine et ?_ | refine eb ?_)
          (repeat refine sq ?_)
          refine ev_take 25 25 rfl rfl rfl (mixT_at (by omega)) rfl (mixT_set (f := wF) (g := wH) (l := d.wait) (by omega)) rfl rfl (fun ty' => ?_)
          refine rg ?_
          refine xa rfl rfl rfl (by omega) rfl ?_
          refine xm rfl rfl ?_
          refine nl ?_
          (repeat first | refine et ?_ | refine eb ?_)
          (repeat first | refine et ?_ | refine eb ?_)
          refine eve_round (k + 1) [] ?hp ⟨by (repeat first | exact trivial | refine ⟨rfl, ?_⟩), by (repeat first | exact trivial | refine ⟨rfl, ?_⟩), ⟨⟨_, rfl, by (first | (exact fall_torn (by omega) (by simp_all) (by simp_all) (by rw [fallUp_len]; omega)) | (exfalso; simp_all; done))⟩, ⟨_, rfl, by rfl⟩, trivial⟩, by (repeat first | exact trivial | refine ⟨⟨_, rfl, rfl⟩, ?_⟩), rfl⟩
          case hp => exact ⟨by omega, by omega⟩
        · try have d4 := of_decide_eq_false h4
          (repeat refine sq ?_)
          refine ev_skip ?_
          (repeat first | refine et ?_ | refine eb ?_)
          (repeat refine sq ?_)
          refine rg ?_
          refine xb ttOk rfl rfl ?_
          refine xs rfl rfl ?_
          refine nl ?_
          (repeat first | refine et ?_ | refine eb ?_)
          (repeat refine sq ?_)
          refine ev_cond rfl (fun h5 => ?_) (fun h5 => ?_)
          · try have d5 := of_decide_eq_true h5
            (repeat refine sq ?_)
            refine ev_exit ?_
            (repeat first | refine evx_then ?_ | refine evx_hit ?_ | refine evx_miss rfl ?_)
            (repeat first | refine et ?_ | refine eb ?_)
            (repeat refine sq ?_)
            refine rg ?_
            refine xf ttOk rfl rfl ?_
            first | refine xo (q_load_pr ttOk rfl rfl rfl rfl (mixT_at (by omega)) rfl rfl) rfl ?_ | refine xo (q_load_pr ttOk rfl rfl rfl rfl (get_map (by omega)) rfl rfl) rfl ?_ | refine xl ttOk rfl rfl ?_
            refine xf ttOk rfl rfl ?_
            first | refine xo (q_load_pr ttOk rfl rfl rfl rfl (mixT_at (by omega)) rfl rfl) rfl ?_ | refine xo (q_load_pr ttOk rfl rfl rfl rfl (get_map (by omega)) rfl rfl) rfl ?_ | refine xl ttOk rfl rfl ?_
            refine xm rfl rfl ?_
            refine xo (q_ix_rt (m := (d.wait[k]'(by omega)).1.toNat) ttOk rfl rfl rfl rfl rfl (by omega) (by rw [List.length_map]; omega)) rfl ?_
            refine evl_take 52 52 rfl rfl rfl (mixT_at (by omega)) rfl (mixT_set (f := wF) (g := wH) (l := d.wait) (by omega)) rfl rfl (fun ty' => ?_)
            refine evl_e (eff_flt 101 (e_st_pr ttOk rfl rfl rfl rfl rfl rfl rfl (get_map (by omega)) rfl rfl rfl rfl rfl)) ?_
            refine nl ?_
            (repeat first | refine et ?_ | refine eb ?_)
            (repeat refine sq ?_)
            refine ev_exit ?_
            (repeat first | refine evx_then ?_ | refine evx_hit ?_ | refine evx_miss rfl ?_)
            (repeat first | refine et ?_ | refine eb ?_)
            (repeat refine sq ?_)
            refine rg ?_
            refine xa rfl rfl rfl (by omega) rfl ?_
            refine xm rfl rfl ?_
            refine nl ?_
            (repeat first | refine et ?_ | refine eb ?_)
            (repeat first | refine et ?_ | refine eb ?_)
            refine eve_round (k + 1) [] ?hp ⟨by (repeat first | exact trivial | refine ⟨rfl, ?_⟩), by (repeat first | exact trivial | refine ⟨rfl, ?_⟩), ⟨⟨_, rfl, by (first | (exact fall_kept (by omega) (by simp_all)) | (exfalso; simp_all; done))⟩, ⟨_, rfl, by rfl⟩, trivial⟩, by (repeat first | exact trivial | refine ⟨⟨_, rfl, rfl⟩, ?_⟩), rfl⟩
            case hp => exact ⟨by omega, by omega⟩
          · try have d5 := of_decide_eq_false h5
            (repeat refine sq ?_)
            refine ev_skip ?_
            (repeat first | refine et ?_ | refine eb ?_)
            (repeat refine sq ?_)
            refine ev_exit ?_
            (repeat first | refine evx_then ?_ | refine evx_hit ?_ | refine evx_miss rfl ?_)
            (repeat first | refine et ?_ | refine eb ?_)
            (repeat refine sq ?_)
            refine ev_take 25 25 rfl rfl rfl (mixT_at (by omega)) rfl (mixT_set (f := wF) (g := wH) (l := d.wait) (by omega)) rfl rfl (fun ty' => ?_)
            refine rg ?_
            refine xa rfl rfl rfl (by omega) rfl ?_
            refine xm rfl rfl ?_
            refine nl ?_
            (repeat first | refine et ?_ | refine eb ?_)
            (repeat first | refine et ?_ | refine eb ?_)
            refine eve_round (k + 1) [] ?hp ⟨by (repeat first | exact trivial | refine ⟨rfl, ?_⟩), by (repeat first | exact trivial | refine ⟨rfl, ?_⟩), ⟨⟨_, rfl, by (first | (exact fall_lost (by simp_all) (by simp_all)) | (exfalso; simp_all; done))⟩, ⟨_, rfl, by rfl⟩, trivial⟩, by (repeat first | exact trivial | refine ⟨⟨_, rfl, rfl⟩, ?_⟩), rfl⟩
            case hp => exact ⟨by omega, by omega⟩
      · try have d3 := of_decide_eq_false h3
        have hf := fate_out (F := F) (k := k) (by omega)
        (repeat refine sq ?_)
        refine ev_skip ?_
        (repeat first | refine et ?_ | refine eb ?_)
        (repeat refine sq ?_)
        refine rg ?_
        refine xm rfl rfl ?_
        refine nl ?_
        (repeat first | refine et ?_ | refine eb ?_)
        (repeat refine sq ?_)
        refine ev_blk ?_
        (repeat refine sq ?_)
        refine ev_blk ?_
        (repeat refine sq ?_)
        refine ev_blk ?_
        (repeat refine sq ?_)
        refine rg ?_
        refine xb ttOk rfl rfl ?_
        refine xs rfl rfl ?_
        refine nl ?_
        (repeat first | refine et ?_ | refine eb ?_)
        (repeat refine sq ?_)
        refine ev_cond rfl (fun h6 => ?_) (fun h6 => ?_)
        · try have d6 := of_decide_eq_true h6
          (repeat refine sq ?_)
          refine ev_exit ?_
          (repeat first | refine evx_then ?_ | refine evx_hit ?_ | refine evx_miss rfl ?_)
          (repeat first | refine et ?_ | refine eb ?_)
          (repeat refine sq ?_)
          refine ev_drawq [] mo ?_
          refine rdk_take 0 rfl (by kernel_rfl) trivial (q_fieldAddr ttOk rfl) rfl ?_
          first | refine rdk_take 1 rfl (by kernel_rfl) trivial (q_load_pr ttOk rfl rfl rfl rfl (mixT_at (by omega)) rfl rfl) rfl ?_ | refine rdk_take 1 rfl (by kernel_rfl) trivial (q_load_pr ttOk rfl rfl rfl rfl (get_map (by omega)) rfl rfl) rfl ?_ | refine rdk_take 1 rfl (by kernel_rfl) trivial (q_load ttOk rfl) rfl ?_
          refine rdk_take 2 rfl (by kernel_rfl) trivial (q_fieldAddr ttOk rfl) rfl ?_
          first | refine rdk_take 3 rfl (by kernel_rfl) trivial (q_load_pr ttOk rfl rfl rfl rfl (mixT_at (by omega)) rfl rfl) rfl ?_ | refine rdk_take 3 rfl (by kernel_rfl) trivial (q_load_pr ttOk rfl rfl rfl rfl (get_map (by omega)) rfl rfl) rfl ?_ | refine rdk_take 3 rfl (by kernel_rfl) trivial (q_load ttOk rfl) rfl ?_
          refine rdk_take 4 rfl (by kernel_rfl) trivial (q_fieldAddr ttOk rfl) rfl ?_
          first | refine rdk_take 5 rfl (by kernel_rfl) trivial (q_load_pr ttOk rfl rfl rfl rfl (mixT_at (by omega)) rfl rfl) rfl ?_ | refine rdk_take 5 rfl (by kernel_rfl) trivial (q_load_pr ttOk rfl rfl rfl rfl (get_map (by omega)) rfl rfl) rfl ?_ | refine rdk_take 5 rfl (by kernel_rfl) trivial (q_load ttOk rfl) rfl ?_
          refine rdk_take 6 rfl (by kernel_rfl) trivial (q_ix_rt (m := (d.wait[k]'(by omega)).1.toNat) ttOk rfl rfl rfl rfl rfl (by omega) (by rw [List.length_map]; omega)) rfl ?_
          first | refine rdk_take 7 rfl (by kernel_rfl) trivial (q_load_pr ttOk rfl rfl rfl rfl (mixT_at (by omega)) rfl rfl) rfl ?_ | refine rdk_take 7 rfl (by kernel_rfl) trivial (q_load_pr ttOk rfl rfl rfl rfl (get_map (by omega)) rfl rfl) rfl ?_ | refine rdk_take 7 rfl (by kernel_rfl) trivial (q_load ttOk rfl) rfl ?_
          refine rdk_one 8 (by kernel_rfl) ?_
          refine rdo_call (nm := 47) rfl trivial (cf rfl) (c_torn (d.wait[k]'(by omega)).2 ((fallUp d F false k)[(d.wait[k]'(by omega)).1.toNat]'(by omega)) ⟨by omega, hrw _ (List.getElem_mem _)⟩) (rs_sub_sub rfl rfl (mixT_at (by omega)) rfl rfl rfl (get_map (by omega)) rfl) rfl rfl rfl ?_
          refine rdk_take 9 rfl (by kernel_rfl) trivial (q_assign rfl) rfl ?_
          refine rdk_endq (by kernel_rfl) ?_
          (repeat first | refine et ?_ | refine eb ?_)
          (repeat refine sq ?_)
          refine rg ?_
          refine xf ttOk rfl rfl ?_
          first | refine xo (q_load_pr ttOk rfl rfl rfl rfl (mixT_at (by omega)) rfl rfl) rfl ?_ | refine xo (q_load_pr ttOk rfl rfl rfl rfl (get_map (by omega)) rfl rfl) rfl ?_ | refine xl ttOk rfl rfl ?_
          refine xf ttOk rfl rfl ?_
          first | refine xo (q_load_pr ttOk rfl rfl rfl rfl (mixT_at (by omega)) rfl rfl) rfl ?_ | refine xo (q_load_pr ttOk rfl rfl rfl rfl (get_map (by omega)) rfl rfl) rfl ?_ | refine xl ttOk rfl rfl ?_
          refine xm rfl rfl ?_
          refine xo (q_ix_rt (m := (d.wait[k]'(by omega)).1.toNat) ttOk rfl rfl rfl rfl rfl (by omega) (by rw [List.length_map]; omega)) rfl ?_
          refine evl_e (eff_flt 101 (e_st_pr ttOk rfl rfl rfl rfl rfl rfl rfl (get_map (by omega)) rfl rfl rfl rfl rfl)) ?_
          refine nl ?_
          (repeat first | refine et ?_ | refine eb ?_)
          (repeat refine sq ?_)
          refine ev_exit ?_
          (repeat first | refine evx_then ?_ | refine evx_hit ?_ | refine evx_miss rfl ?_)
          (repeat first | refine et ?_ | refine eb ?_)
          (repeat refine sq ?_)
          refine ev_take 25 25 rfl rfl rfl (mixT_at (by omega)) rfl (mixT_set (f := wF) (g := wH) (l := d.wait) (by omega)) rfl rfl (fun ty' => ?_)
          refine rg ?_
          refine xa rfl rfl rfl (by omega) rfl ?_
          refine xm rfl rfl ?_
          refine nl ?_
          (repeat first | refine et ?_ | refine eb ?_)
          (repeat first | refine et ?_ | refine eb ?_)
          refine eve_round (k + 1) [] ?hp ⟨by (repeat first | exact trivial | refine ⟨rfl, ?_⟩), by (repeat first | exact trivial | refine ⟨rfl, ?_⟩), ⟨⟨_, rfl, by (first | (exact fall_torn (by omega) (by simp_all) (by simp_all) (by rw [fallUp_len]; omega)) | (exfalso; simp_all; done))⟩, ⟨_, rfl, by rfl⟩, trivial⟩, by (repeat first | exact trivial | refine ⟨⟨_, rfl, rfl⟩, ?_⟩), rfl⟩
          case hp => exact ⟨by omega, by omega⟩
        · try have d6 := of_decide_eq_false h6
          (repeat refine sq ?_)
          refine ev_skip ?_
          (repeat first | refine et ?_ | refine eb ?_)
          (repeat refine sq ?_)
          refine rg ?_
          refine xb ttOk rfl rfl ?_
          refine xs rfl rfl ?_
          refine nl ?_
          (repeat first | refine et ?_ | refine eb ?_)
          (repeat refine sq ?_)
          refine ev_cond rfl (fun h7 => ?_) (fun h7 => ?_)
          · try have d7 := of_decide_eq_true h7
            (repeat refine sq ?_)
            refine ev_exit ?_
            (repeat first | refine evx_then ?_ | refine evx_hit ?_ | refine evx_miss rfl ?_)
            (repeat first | refine et ?_ | refine eb ?_)
            (repeat refine sq ?_)
            refine rg ?_
            refine xf ttOk rfl rfl ?_
            first | refine xo (q_load_pr ttOk rfl rfl rfl rfl (mixT_at (by omega)) rfl rfl) rfl ?_ | refine xo (q_load_pr ttOk rfl rfl rfl rfl (get_map (by omega)) rfl rfl) rfl ?_ | refine xl ttOk rfl rfl ?_
            refine xf ttOk rfl rfl ?_
            first | refine xo (q_load_pr ttOk rfl rfl rfl rfl (mixT_at (by omega)) rfl rfl) rfl ?_ | refine xo (q_load_pr ttOk rfl rfl rfl rfl (get_map (by omega)) rfl rfl) rfl ?_ | refine xl ttOk rfl rfl ?_
            refine xm rfl rfl ?_
            refine xo (q_ix_rt (m := (d.wait[k]'(by omega)).1.toNat) ttOk rfl rfl rfl rfl rfl (by omega) (by rw [List.length_map]; omega)) rfl ?_
            refine evl_take 52 52 rfl rfl rfl (mixT_at (by omega)) rfl (mixT_set (f := wF) (g := wH) (l := d.wait) (by omega)) rfl rfl (fun ty' => ?_)
            refine evl_e (eff_flt 101 (e_st_pr ttOk rfl rfl rfl rfl rfl rfl rfl (get_map (by omega)) rfl rfl rfl rfl rfl)) ?_
            refine nl ?_
            (repeat first | refine et ?_ | refine eb ?_)
            (repeat refine sq ?_)
            refine ev_exit ?_
            (repeat first | refine evx_then ?_ | refine evx_hit ?_ | refine evx_miss rfl ?_)
            (repeat first | refine et ?_ | refine eb ?_)
            (repeat refine sq ?_)
            refine rg ?_
            refine xa rfl rfl rfl (by omega) rfl ?_
            refine xm rfl rfl ?_
            refine nl ?_
            (repeat first | refine et ?_ | refine eb ?_)
            (repeat first | refine et ?_ | refine eb ?_)
            refine eve_round (k + 1) [] ?hp ⟨by (repeat first | exact trivial | refine ⟨rfl, ?_⟩), by (repeat first | exact trivial | refine ⟨rfl, ?_⟩), ⟨⟨_, rfl, by (first | (exact fall_kept (by omega) (by simp_all)) | (exfalso; simp_all; done))⟩, ⟨_, rfl, by rfl⟩, trivial⟩, by (repeat first | exact trivial | refine ⟨⟨_, rfl, rfl⟩, ?_⟩), rfl⟩
            case hp => exact ⟨by omega, by omega⟩
          · try have d7 := of_decide_eq_false h7
            (repeat refine sq ?_)
            refine ev_skip ?_
            (repeat first | refine et ?_ | refine eb ?_)
            (repeat refine sq ?_)
            refine ev_exit ?_
            (repeat first | refine evx_then ?_ | refine evx_hit ?_ | refine evx_miss rfl ?_)
            (repeat first | refine et ?_ | refine eb ?_)
            (repeat refine sq ?_)
            refine ev_take 25 25 rfl rfl rfl (mixT_at (by omega)) rfl (mixT_set (f := wF) (g := wH) (l := d.wait) (by omega)) rfl rfl (fun ty' => ?_)
            refine rg ?_
            refine xa rfl rfl rfl (by omega) rfl ?_
            refine xm rfl rfl ?_
            refine nl ?_
            (repeat first | refine et ?_ | refine eb ?_)
            (repeat first | refine et ?_ | refine eb ?_)
            refine eve_round (k + 1) [] ?hp ⟨by (repeat first | exact trivial | refine ⟨rfl, ?_⟩), by (repeat first | exact trivial | refine ⟨rfl, ?_⟩), ⟨⟨_, rfl, by (first | (exact fall_lost (by simp_all) (by simp_all)) | (exfalso; simp_all; done))⟩, ⟨_, rfl, by rfl⟩, trivial⟩, by (repeat first | exact trivial | refine ⟨⟨_, rfl, rfl⟩, ?_⟩), rfl⟩
            case hp => exact ⟨by omega, by omega⟩
    · try have d2 := of_decide_eq_false h2
      (repeat refine sq ?_)
      refine ev_exit ?_
      (repeat first | refine evx_then ?_ | refine evx_hit ?_ | refine evx_miss rfl ?_)
      (repeat first | refine et ?_ | refine eb ?_)
      (repeat refine sq ?_)
      refine rg ?_
      refine xf ttOk rfl rfl ?_
      refine xst ttOk rfl ?_ rfl
      refine nl ?_
      (repeat first | refine et ?_ | refine eb ?_)
      (repeat refine sq ?_)
      refine rg ?_
      first | refine xo (q_load_pr ttOk rfl rfl rfl rfl (mixT_at (by omega)) rfl rfl) rfl ?_ | refine xo (q_load_pr ttOk rfl rfl rfl rfl (get_map (by omega)) rfl rfl) rfl ?_ | refine xl ttOk rfl rfl ?_
      refine xst ttOk rfl ?_ rfl
      refine nl ?_
      (repeat first | refine et ?_ | refine eb ?_)
      (repeat refine sq ?_)
      refine ev_ret ?_
      (repeat first | refine evr_then ?_ | refine evr_blk ?_)
      refine ret_pureN ttOk rfl rfl ?_
      first
      | (rw [fall_no (by assumption)]; simp [RpLe, L2, RcLe, zeroD]; done)
      | (rw [fall_yes (by assumption)]; simp [RpLe, L2, RcLe]; done)
      | (obtain rfl : k = d.wait.length := by omega
         rw [fall_yes (by assumption)]; simp [RpLe, L2, RcLe]; done)
theorem c_BothSynced (t : Two) : Pure Tryz.prog 116 [many (twoC t)] [many' (twoR (bothSyncF t))] := by
  refine pure_intro (N := 14) Tryz.func116 rfl rfl rfl rfl (fun H w => ?_)
  (repeat refine sq ?_)
  refine rg ?_
  refine evl_e (e_box rfl rfl rfl rfl) ?_
  refine evl_e (e_alloc ttOk rfl rfl rfl rfl) ?_
  refine nl ?_
  (repeat first | refine et ?_ | refine eb ?_)
  (repeat refine sq ?_)
  refine rg ?_
  refine xl ttOk rfl rfl ?_
  refine evl_call (nm := 4) (cf rfl) (c_TwoOk t) (rs_of rfl) rfl rfl rfl ?_
  refine xo (q_not rfl) rfl ?_
  refine nl ?_
  (repeat first | refine et ?_ | refine eb ?_)
  (repeat refine sq ?_)
  refine ev_cond_n rfl (fun h1 => ?_) (fun h1 => ?_)
  · (repeat refine sq ?_)
    refine rg ?_
    refine xo (q_build ttOk rfl) rfl ?_
    refine xst ttOk rfl ?_ rfl
    refine nl ?_
    (repeat first | refine et ?_ | refine eb ?_)
    (repeat refine sq ?_)
    refine ev_ret ?_
    (repeat first | refine evr_then ?_ | refine evr_blk ?_)
    refine ret_pureN ttOk rfl rfl ?_
    first
    | (rw [bsync_no (by assumption)]; simp [RpLe, L2, RcLe, zeroD, zeroT]; done)
    | (rw [bsync_yes (by assumption)]; simp [RpLe, L2, RcLe]; done)
  · (repeat refine sq ?_)
    refine ev_skip ?_
    (repeat first | refine et ?_ | refine eb ?_)
    (repeat refine sq ?_)
    refine ev_drawq [7] mo ?_
    refine rdk_take 0 rfl (by kernel_rfl) trivial (q_fieldAddr ttOk rfl) rfl ?_
    refine rdk_take 1 rfl (by kernel_rfl) trivial (q_load ttOk rfl) rfl ?_
    refine rdk_take 3 rfl (by kernel_rfl) trivial (q_fieldAddr ttOk rfl) rfl ?_
    refine rdk_take 4 rfl (by kernel_rfl) trivial (q_load ttOk rfl) rfl ?_
    refine rdk_one 2 (by kernel_rfl) ?_
    first | refine rdo_call (nm := 9) rfl trivial (cf rfl) (c_Synced t.a) (rs_of rfl) rfl rfl rfl ?_ | refine rdo_call (nm := 9) rfl trivial (cf rfl) (c_Synced t.b) (rs_of rfl) rfl rfl rfl ?_
    refine rdk_one 5 (by kernel_rfl) ?_
    first | refine rdo_call (nm := 12) rfl trivial (cf rfl) (c_Synced t.a) (rs_of rfl) rfl rfl rfl ?_ | refine rdo_call (nm := 12) rfl trivial (cf rfl) (c_Synced t.b) (rs_of rfl) rfl rfl rfl ?_
    refine rdk_take 6 rfl (by kernel_rfl) trivial (q_build ttOk rfl) rfl ?_
    refine rdk_one 7 (by kernel_rfl) ?_
    refine rdo_brk rfl rfl trivial (e_store ttOk rfl) ?_
    refine rdb_endq (by kernel_rfl) ?_
    (repeat first | refine et ?_ | refine eb ?_)
    (repeat refine sq ?_)
    refine ev_ret ?_
    (repeat first | refine evr_then ?_ | refine evr_blk ?_)
    refine ret_pureN ttOk rfl rfl ?_
    first
    | (rw [bsync_no (by assumption)]; simp [RpLe, L2, RcLe, zeroD, zeroT]; done)
    | (rw [bsync_yes (by assumption)]; simp [RpLe, L2, RcLe]; done)
theorem c_BothSynced' (t : Two) : Pure Tryz.prog 121 [many (twoC t)] [many' (twoR (bothSyncF t))] := by
  refine pure_intro (N := 24) Tryz.func121 rfl rfl rfl rfl (fun H w => ?_)
  (repeat refine sq ?_)
  refine rg ?_
  refine evl_e (e_box rfl rfl rfl rfl) ?_
  refine evl_e (e_alloc ttOk rfl rfl rfl rfl) ?_
  refine nl ?_
  (repeat first | refine et ?_ | refine eb ?_)
  (repeat refine sq ?_)
  refine rg ?_
  refine xl ttOk rfl rfl ?_
  refine evl_call (nm := 7) (cf rfl) (c_TwoOk' t) (rs_of rfl) rfl rfl rfl ?_
  refine xo (q_not rfl) rfl ?_
  refine nl ?_
  (repeat first | refine et ?_ | refine eb ?_)
  (repeat refine sq ?_)
  refine ev_cond_n rfl (fun h1 => ?_) (fun h1 => ?_)
  · (repeat refine sq ?_)
    refine rg ?_
    refine xo (q_build ttOk rfl) rfl ?_
    refine xst ttOk rfl ?_ rfl
    refine nl ?_
    (repeat first | refine et ?_ | refine eb ?_)
    (repeat refine sq ?_)
    refine ev_ret ?_
    (repeat first | refine evr_then ?_ | refine evr_blk ?_)
    refine ret_pureN ttOk rfl rfl ?_
    first
    | (rw [bsync_no (by assumption)]; simp [RpLe, L2, RcLe, zeroD, zeroT]; done)
    | (rw [bsync_yes (by assumption)]; simp [RpLe, L2, RcLe]; done)
  · (repeat refine sq ?_)
    refine ev_skip ?_
    (repeat first | refine et ?_ | refine eb ?_)
    (repeat refine sq ?_)
    refine rg ?_
    refine xl ttOk rfl rfl ?_
    refine evl_callv (cf rfl) hands_disks rfl rfl rfl rfl ?_
    refine evl_e (e_alloc ttOk rfl rfl rfl rfl) ?_
    refine xst ttOk rfl ?_ rfl
    refine nl ?_
    (repeat first | refine et ?_ | refine eb ?_)
    (repeat refine sq ?_)
    refine rg ?_
    refine xl ttOk rfl rfl ?_
    refine xm rfl rfl ?_
    refine nl ?_
    (repeat first | refine et ?_ | refine eb ?_)
    (repeat refine sq ?_)
    refine ev_blk ?_
    (repeat refine sq ?_)
    refine ev_rounds 2 ?_
    (repeat refine sq ?_)
    refine rg ?_
    refine xb ttOk rfl rfl ?_
    refine nl ?_
    (repeat first | refine et ?_ | refine eb ?_)
    (repeat refine sq ?_)
    refine ev_cond_kt rfl (by first | rfl | assumption | exact nt (by assumption) | exact nf (by assumption)) ?_
    (repeat refine sq ?_)
    refine ev_skip ?_
    (repeat first | refine et ?_ | refine eb ?_)
    (repeat refine sq ?_)
    refine ev_blk ?_
    (repeat refine sq ?_)
    refine rg ?_
    refine xm rfl rfl ?_
    first | refine xo (q_index 0 ttOk rfl rfl (by omega)) rfl ?_ | refine xo (q_index 1 ttOk rfl rfl (by omega)) rfl ?_
    refine evl_e (e_alloc ttOk rfl rfl rfl rfl) ?_
    refine xs rfl rfl ?_
    refine xst ttOk rfl ?_ rfl
    refine nl ?_
    (repeat first | refine et ?_ | refine eb ?_)
    (repeat refine sq ?_)
    refine rg ?_
    refine xm rfl rfl ?_
    refine xl ttOk rfl rfl ?_
    first | refine evl_call (nm := 19) (cf rfl) (c_Synced' t.a) (rs_of rfl) rfl rfl rfl ?_ | refine evl_call (nm := 19) (cf rfl) (c_Synced' t.b) (rs_of rfl) rfl rfl rfl ?_
    first | refine xo (q_ix_arr 0 ttOk rfl rfl (by omega)) rfl ?_ | refine xo (q_ix_arr 1 ttOk rfl rfl (by omega)) rfl ?_
    refine xst ttOk rfl ?_ rfl
    refine nl ?_
    (repeat first | refine et ?_ | refine eb ?_)
    (repeat refine sq ?_)
    refine rg ?_
    refine xa rfl rfl rfl (by omega) rfl ?_
    refine xm rfl rfl ?_
    refine nl ?_
    (repeat first | refine et ?_ | refine eb ?_)
    (repeat first | refine et ?_ | refine eb ?_)
    (try refine eve_again ?_)
    refine ev_pr [1, 2, 3, 12, 13] rfl ?_
    refine ev_remB [5] rfl ?_
    (repeat refine sq ?_)
    refine rg ?_
    refine xb ttOk rfl rfl ?_
    refine nl ?_
    (repeat first | refine et ?_ | refine eb ?_)
    (repeat refine sq ?_)
    refine ev_cond_kt rfl (by first | rfl | assumption | exact nt (by assumption) | exact nf (by assumption)) ?_
    (repeat refine sq ?_)
    refine ev_skip ?_
    (repeat first | refine et ?_ | refine eb ?_)
    (repeat refine sq ?_)
    refine ev_blk ?_
    (repeat refine sq ?_)
    refine rg ?_
    refine xm rfl rfl ?_
    first | refine xo (q_index 0 ttOk rfl rfl (by omega)) rfl ?_ | refine xo (q_index 1 ttOk rfl rfl (by omega)) rfl ?_
    refine evl_e (e_alloc ttOk rfl rfl rfl rfl) ?_
    refine xs rfl rfl ?_
    refine xst ttOk rfl ?_ rfl
    refine nl ?_
    (repeat first | refine et ?_ | refine eb ?_)
    (repeat refine sq ?_)
    refine rg ?_
    refine xm rfl rfl ?_
    refine xl ttOk rfl rfl ?_
    first | refine evl_call (nm := 1000019) (cf rfl) (c_Synced' t.a) (rs_of rfl) rfl rfl rfl ?_ | refine evl_call (nm := 1000019) (cf rfl) (c_Synced' t.b) (rs_of rfl) rfl rfl rfl ?_
    first | refine xo (q_ix_arr 0 ttOk rfl rfl (by omega)) rfl ?_ | refine xo (q_ix_arr 1 ttOk rfl rfl (by omega)) rfl ?_
    refine xst ttOk rfl ?_ rfl
    refine nl ?_
    (repeat first | refine et ?_ | refine eb ?_)
    (repeat refine sq ?_)
    refine rg ?_
    refine xa rfl rfl rfl (by omega) rfl ?_
    refine xm rfl rfl ?_
    refine nl ?_
    (repeat first | refine et ?_ | refine eb ?_)
    (repeat first | refine et ?_ | refine eb ?_)
    (try refine eve_again ?_)
    refine ev_pr [1, 2, 3, 12, 13] rfl ?_
    refine ev_remB [5] rfl ?_
    (repeat refine sq ?_)
    refine rg ?_
    refine xb ttOk rfl rfl ?_
    refine nl ?_
    (repeat first | refine et ?_ | refine eb ?_)
    (repeat refine sq ?_)
    refine ev_cond_kf rfl (by first | rfl | assumption | exact nt (by assumption) | exact nf (by assumption)) ?_
    (repeat refine sq ?_)
    refine ev_exit ?_
    (repeat first | refine evx_then ?_ | refine evx_hit ?_ | refine evx_miss rfl ?_)
    (repeat first | refine et ?_ | refine eb ?_)
    (repeat refine sq ?_)
    refine rg ?_
    refine xl ttOk rfl rfl ?_
    refine evl_callv (cf rfl) hands_twoOf rfl rfl rfl rfl ?_
    refine xst ttOk rfl ?_ rfl
    refine nl ?_
    (repeat first | refine et ?_ | refine eb ?_)
    (repeat refine sq ?_)
    refine ev_ret ?_
    (repeat first | refine evr_then ?_ | refine evr_blk ?_)
    refine ret_pureN ttOk rfl rfl ?_
    first
    | (rw [bsync_no (by assumption)]; simp [RpLe, L2, RcLe, zeroD, zeroT]; done)
    | (rw [bsync_yes (by assumption)]; simp [RpLe, L2, RcLe]; done)
theorem c_MendedAt (t : Two) (x : Int) (row : List Int) : Pure Tryz.prog 120 [many (twoC t), one (iC x), one (ints row)] [many' (twoR (mendedF t x row))] := by
  refine pure_intro (N := 21) Tryz.func120 rfl rfl rfl rfl (fun H w => ?_)
  (repeat refine sq ?_)
  refine rg ?_
  refine evl_e (e_box rfl rfl rfl rfl) ?_
  refine evl_e (e_alloc ttOk rfl rfl rfl rfl) ?_
  refine nl ?_
  (repeat first | refine et ?_ | refine eb ?_)
  (repeat refine sq ?_)
  refine rg ?_
  refine xl ttOk rfl rfl ?_
  refine xm rfl rfl ?_
  refine xm rfl rfl ?_
  refine evl_call (nm := 13) (cf rfl) (c_BothWrote t x row) (rs_of rfl) rfl rfl rfl ?_
  refine xm rfl rfl ?_
  refine xo (q_ext rfl) rfl ?_
  refine xo (q_ext rfl) rfl ?_
  refine evl_e (e_alloc ttOk rfl rfl rfl rfl) ?_
  refine xst ttOk rfl ?_ rfl
  refine xs rfl rfl ?_
  refine nl ?_
  (repeat first | refine et ?_ | refine eb ?_)
  (repeat refine sq ?_)
  refine rg ?_
  refine xm rfl rfl ?_
  refine xo (q_not rfl) rfl ?_
  refine nl ?_
  (repeat first | refine et ?_ | refine eb ?_)
  (repeat refine sq ?_)
  refine ev_cond_n rfl (fun h1 => ?_) (fun h1 => ?_)
  · (repeat refine sq ?_)
    refine rg ?_
    refine xl ttOk rfl rfl ?_
    refine xst ttOk rfl ?_ rfl
    refine nl ?_
    (repeat first | refine et ?_ | refine eb ?_)
    (repeat refine sq ?_)
    refine ev_ret ?_
    (repeat first | refine evr_then ?_ | refine evr_blk ?_)
    refine ret_pure' ttOk rfl rfl ?_
    rw [show mendedF t x row = (bothWroteF t x row).1 by simp only [mendedF, h1]; rfl]
  · (repeat refine sq ?_)
    refine ev_skip ?_
    (repeat first | refine et ?_ | refine eb ?_)
    (repeat refine sq ?_)
    refine rg ?_
    refine xl ttOk rfl rfl ?_
    refine evl_call (nm := 20) (cf rfl) (c_BothSynced (bothWroteF t x row).1) (rs_of rfl) rfl rfl rfl ?_
    refine xst ttOk rfl ?_ rfl
    refine nl ?_
    (repeat first | refine et ?_ | refine eb ?_)
    (repeat refine sq ?_)
    refine ev_ret ?_
    (repeat first | refine evr_then ?_ | refine evr_blk ?_)
    refine ret_pure' ttOk rfl rfl ?_
    rw [show mendedF t x row = bothSyncF (bothWroteF t x row).1 by simp only [mendedF, h1]; rfl]
theorem c_MendedAt' (t : Two) (x : Int) (row : List Int) : Pure Tryz.prog 125 [many (twoC t), one (iC x), one (ints row)] [many' (twoR (mendedF t x row))] := by
  refine pure_intro (N := 21) Tryz.func125 rfl rfl rfl rfl (fun H w => ?_)
  (repeat refine sq ?_)
  refine rg ?_
  refine evl_e (e_box rfl rfl rfl rfl) ?_
  refine evl_e (e_alloc ttOk rfl rfl rfl rfl) ?_
  refine nl ?_
  (repeat first | refine et ?_ | refine eb ?_)
  (repeat refine sq ?_)
  refine rg ?_
  refine xl ttOk rfl rfl ?_
  refine xm rfl rfl ?_
  refine xm rfl rfl ?_
  refine evl_call (nm := 13) (cf rfl) (c_BothWrote' t x row) (rs_of rfl) rfl rfl rfl ?_
  refine xm rfl rfl ?_
  refine xo (q_ext rfl) rfl ?_
  refine xo (q_ext rfl) rfl ?_
  refine evl_e (e_alloc ttOk rfl rfl rfl rfl) ?_
  refine xst ttOk rfl ?_ rfl
  refine xs rfl rfl ?_
  refine nl ?_
  (repeat first | refine et ?_ | refine eb ?_)
  (repeat refine sq ?_)
  refine rg ?_
  refine xm rfl rfl ?_
  refine xo (q_not rfl) rfl ?_
  refine nl ?_
  (repeat first | refine et ?_ | refine eb ?_)
  (repeat refine sq ?_)
  refine ev_cond_n rfl (fun h1 => ?_) (fun h1 => ?_)
  · (repeat refine sq ?_)
    refine rg ?_
    refine xl ttOk rfl rfl ?_
    refine xst ttOk rfl ?_ rfl
    refine nl ?_
    (repeat first | refine et ?_ | refine eb ?_)
    (repeat refine sq ?_)
    refine ev_ret ?_
    (repeat first | refine evr_then ?_ | refine evr_blk ?_)
    refine ret_pure' ttOk rfl rfl ?_
    rw [show mendedF t x row = (bothWroteF t x row).1 by simp only [mendedF, h1]; rfl]
  · (repeat refine sq ?_)
    refine ev_skip ?_
    (repeat first | refine et ?_ | refine eb ?_)
    (repeat refine sq ?_)
    refine rg ?_
    refine xl ttOk rfl rfl ?_
    refine evl_call (nm := 20) (cf rfl) (c_BothSynced' (bothWroteF t x row).1) (rs_of rfl) rfl rfl rfl ?_
    refine xst ttOk rfl ?_ rfl
    refine nl ?_
    (repeat first | refine et ?_ | refine eb ?_)
    (repeat refine sq ?_)
    refine ev_ret ?_
    (repeat first | refine evr_then ?_ | refine evr_blk ?_)
    refine ret_pure' ttOk rfl rfl ?_
    rw [show mendedF t x row = bothSyncF (bothWroteF t x row).1 by simp only [mendedF, h1]; rfl]

end Go.Proofs.YtpbhcdgdabfhfaaGreat
