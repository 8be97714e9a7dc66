/- Walks of functions of the program, printed by a program of the prover. -/
import Derived.Test.YtahkjonokeifmaaKeF95
import Derived.Test.YtahkjonokeifmaaKeVL
import Derived.Test.YtahkjonokeifmaaKeVDA
namespace Go.Proofs.Ytahkjonokeifmaa
open Go.ChangeShapes Go.WideShapes Go.ChangeAt Go.RowKit
set_option linter.unusedVariables false
set_option linter.unusedSimpArgs false
set_option maxHeartbeats 1000000
set_option maxRecDepth 100000
attribute [local irreducible] EvL Ev EvE Quiet Eff Pure RDk RDb RDo
def noE : Entry := ⟨0, 0, 0, 0, 0, 0, 0, 0, 0⟩
def wkU (l : List Entry) (d : Int) : Nat → Two
 | 0 => newKeptF
 | j + 1 => (keptEntryF (if (j : Int) = d then bothSyncF (wkU l d j) else wkU l d j) (l.getD j noE)).1
def wkF (l : List Entry) (d : Int) : Two := if d ≥ l.length then bothSyncF (wkU l d l.length) else wkU l d l.length
theorem wk_at {l : List Entry} {j : Nat} (hj : j < l.length) : l.getD j noE = l[j] := by
 rw [List.getD_eq_getElem?_getD, List.getElem?_eq_getElem hj]; rfl
theorem wk_next {l : List Entry} {d : Int} {j : Nat} (hj : j < l.length) (h : ¬ (j : Int) = d) : (keptEntryF (wkU l d j) l[j]).1 = wkU l d (j + 1) := by
 show _ = (keptEntryF (if (j : Int) = d then bothSyncF (wkU l d j) else wkU l d j) (l.getD j noE)).1
 rw [if_neg h, wk_at hj]
theorem wk_nextS {l : List Entry} {d : Int} {j : Nat} (hj : j < l.length) (h : (j : Int) = d) : (keptEntryF (bothSyncF (wkU l d j)) l[j]).1 = wkU l d (j + 1) := by
 show _ = (keptEntryF (if (j : Int) = d then bothSyncF (wkU l d j) else wkU l d j) (l.getD j noE)).1
 rw [if_pos h, wk_at hj]
theorem wk_up {l : List Entry} (hl : Wl l) {d : Int} (hd : 0 ≤ d ∧ d ≤ l.length) : ∀ j, j ≤ l.length → ∃ n, Kj l (if (j : Int) ≤ d then 0 else d) j n ∧ n.two = wkU l d j
 | 0, _ => ⟨newLogF, by rw [if_pos om]; exact Kj.new, rfl⟩
 | j + 1, hj => by
  obtain ⟨n, h, e⟩ := wk_up hl hd j om
  have hj' : j < l.length := by omega
  by_cases c : (j : Int) = d
  ·have hs := h.sync om
   refine ⟨withE (syncedF n).1 l[j], ?_, ?_⟩
   ·rw [if_neg om, ← c]
    exact hs.ask hl hj'
   ·rw [← wk_nextS hj' c, ← e]
    show (keptEntryF (syncedF n).1.two l[j]).1 = _
    rw [sy_less h.k.j.ok h.k.more]
  ·refine ⟨withE n l[j], ?_, ?_⟩
   ·have h9 := h.ask hl hj'
    by_cases c2 : (j : Int) ≤ d
    ·rw [if_pos c2] at h9
     rw [if_pos om]
     exact h9
    ·rw [if_neg c2] at h9
     rw [if_neg om]
     exact h9
   ·rw [← wk_next hj' c, ← e]
    rfl
theorem wk_log {l : List Entry} (hl : Wl l) {d : Int} (hd : 0 ≤ d ∧ d ≤ l.length) : ∃ n, Kj l d l.length n ∧ n.two = wkF l d := by
 obtain ⟨n, h, e⟩ := wk_up hl hd l.length (Nat.le_refl _)
 by_cases c : d ≥ l.length
 ·have hs := h.sync (Nat.le_refl _)
  refine ⟨(syncedF n).1, ?_, ?_⟩
  ·have : d = l.length := by omega
   rw [this]
   exact hs
  ·unfold wkF
   rw [if_pos c, ← e, sy_less h.k.j.ok h.k.more]
 ·refine ⟨n, ?_, ?_⟩
  ·rw [if_neg om] at h
   exact h
  ·unfold wkF
   rw [if_neg c]
   exact e
def rotOk (d : Disk) (x p v : Int) : Bool := hasAt d x && (inB p 0 (((d.kept.getD x.toNat []).length : Int) - 1) && numOk v)
def rottedF (d : Disk) (x p v : Int) : Disk × Bool := if diskOk d then if rotOk d x p v then (rotD d x.toNat p.toNat v, true) else (d, false) else (zeroD, false)
theorem rott_no {d : Disk} {x p v : Int} (h : diskOk d = false) : rottedF d x p v = (zeroD, false) := by simp [rottedF, h]
theorem rott_fail {d : Disk} {x p v : Int} (h : diskOk d = true) (h2 : rotOk d x p v = false) : rottedF d x p v = (d, false) := by simp [rottedF, h, h2]
theorem rott_yes {d : Disk} {x p v : Int} (h : diskOk d = true) (h2 : rotOk d x p v = true) : rottedF d x p v = (rotD d x.toNat p.toNat v, true) := by simp [rottedF, h, h2]
theorem kept_at {d : Disk} {x : Int} (h : x.toNat < d.kept.length) : d.kept.getD x.toNat [] = d.kept[x.toNat] := by
 rw [List.getD_eq_getElem?_getD, List.getElem?_eq_getElem h]; rfl
theorem rotOk1 {d : Disk} {x p v : Int} (h : hasAt d x = false) : rotOk d x p v = false := by simp [rotOk, h]
theorem rotOk2 {d : Disk} {x p v : Int} (hx : x.toNat < d.kept.length) (h : inB p 0 ((d.kept[x.toNat].length : Int) - 1) = false) : rotOk d x p v = false := by
 unfold rotOk; rw [kept_at hx, h]; simp
theorem rotOk3 {d : Disk} {x p v : Int} (h : inB v 0 1000000000 = false) : rotOk d x p v = false := by
 have : numOk v = false := h
 simp [rotOk, this]
theorem rotOk4 {d : Disk} {x p v : Int} (h1 : hasAt d x = true) (hx : x.toNat < d.kept.length) (h : inB p 0 ((d.kept[x.toNat].length : Int) - 1) = true) (h3 : inB v 0 1000000000 = true) : rotOk d x p v = true := by
 have h4 : numOk v = true := h3
 unfold rotOk; rw [kept_at hx, h, h1, h4]; rfl
theorem rot_rows {d : Disk} {x : Int} {p : Nat} {v : Int} (h : x.toNat < d.kept.length) : ((rotD d x.toNat p v).kept.map fun r => [ints r]) = (d.kept.map fun r => [ints r]).set x.toNat ([ints d.kept[x.toNat]].set 0 (.s 1 ((d.kept[x.toNat].map fun y => [iC y]).set p [.v (.int .i64 v)]))) := by
 unfold rotD
 simp only [kept_at h, List.map_set, List.set_cons_zero, ints]
theorem rott_in {d : Disk} {x p v : Int} (h : diskOk d = true) (hx : 0 ≤ x ∧ x < d.kept.length) (hp : 0 ≤ p) (hv : 0 ≤ v ∧ v < 60) : (rottedF d x p v).1 = rotD d x.toNat p.toNat v := by
 cases h2 : rotOk d x p v with
 | true => rw [rott_yes h h2]
 | false =>
  rw [rott_fail h h2]
  have h3 : hasAt d x = true := inB_iff.2 ⟨by omega, by omega⟩
  have h4 : numOk v = true := numOk_iff.2 ⟨by omega, by omega⟩
  have h5 : (d.kept.getD x.toNat []).length ≤ p.toNat := by
   unfold rotOk at h2
   rw [h3, h4, Bool.true_and, Bool.and_true] at h2
   have h6 : ¬ (0 ≤ p ∧ p ≤ ((d.kept.getD x.toNat []).length : Int) - 1) := fun h7 => by rw [inB_iff.2 h7] at h2; cases h2
   omega
  show d = rotD d x.toNat p.toNat v
  unfold rotD
  rw [List.set_eq_of_length_le h5]
  have h8 : d.kept.set x.toNat (d.kept.getD x.toNat []) = d.kept := by
   rw [kept_at om]
   exact List.set_getElem_self om
  rw [h8]
theorem eqL_same (l : List Int) : eqL l l = true := by simp [eqL]
def safeF (d : Disk) : Bool := diskOk d && decide (d.wait.length = 0)
theorem c_Rotted' (d : Disk) (x p v : Int) : Pure Try.prog 12 [many (diskC d), one (iC x), one (iC p), one (iC v)] [many' (diskR ((rottedF d x p v).1)), one' (RC.v (.bool ((rottedF d x p v).2)))] := by
 refine pure_intro (N := 48) Try.func12 rfl rfl rfl rfl (fun H w => ?_)
 refine sq (rg (evl_e (e_box rfl rfl rfl rfl) (evl_e (e_alloc ttOk rfl rfl rfl rfl) (xs rfl rfl (nl (et (sq (sq (rg (xl ttOk rfl rfl (evl_call (nm := 12) (cf rfl) (c_DiskOk' d) (rs_of rfl) rfl rfl rfl (xo (q_not rfl) rfl (nl (et (ev_cond_n rfl (fun h1 => ?_) (fun h1 => ?_))))))))))))))))
 ·try (have hp9 := inB_iff.1 (show inB p 0 ((d.kept[x.toNat].length : Int) - 1) = true from h1))
  refine sq (rg (xo (q_build ttOk rfl) rfl (xst ttOk rfl rfl (xs rfl rfl (nl (et (ev_ret (evr_then (ret_pureN ttOk rfl rfl ?_)))))))))
  first
  | (rw [rott_no ‹_›]; simp [RpLe, L2, RcLe, zeroD]; done)
  | (rw [rott_fail ‹_› (rotOk1 ‹_›)]; simp [RpLe, L2, RcLe]; done)
  | (rw [rott_fail ‹_› (rotOk2 hx2 ‹_›)]; simp [RpLe, L2, RcLe]; done)
  | (rw [rott_fail ‹_› (rotOk3 ‹_›)]; simp [RpLe, L2, RcLe]; done)
  | (rw [rott_yes ‹_› (rotOk4 ‹_› hx2 ‹_› ‹_›)]; simp [RpLe, L2, RcLe, rotD]; done)
 ·have hs := diskOk_sizes h1
  refine ev_skip (et (sq (rg (xl ttOk rfl rfl (evl_call (nm := 16) (cf rfl) (c_copyDisk d ‹_›) (rs_of rfl) rfl rfl rfl (evl_e (e_alloc ttOk rfl rfl rfl rfl) (xst ttOk rfl rfl (nl (et (sq (sq (rg (xl ttOk rfl rfl (xm rfl rfl (evl_call (nm := 19) (cf rfl) (c_sectorOk d _) (rs_of rfl) rfl rfl rfl (xo (q_not rfl) rfl (xm rfl rfl (evl_partn rfl rfl (fun h2 => ?_) (fun h2 => ?_)))))))))))))))))))
  ·try (have hx1 := inB_iff.1 (show inB x 0 ((d.kept.length : Int) - 1) = true from h2))
   try (have hx2 : x.toNat < d.kept.length := by omega)
   try (have hkl := kept_len h1 hx2)
   refine gn (nt h2) rfl rfl rfl (gn (nt h2) rfl rfl rfl (gn (nt h2) rfl rfl rfl (gn (nt h2) rfl rfl rfl (gn (nt h2) rfl rfl rfl (gn (nt h2) rfl rfl rfl (gn (nt h2) rfl rfl rfl (gn (nt h2) rfl rfl rfl (gn (nt h2) rfl rfl rfl (gn (nt h2) rfl rfl rfl (xo (q_pick_t rfl (nt h2) rfl) rfl (xm rfl rfl (gn rfl rfl rfl rfl (gn rfl rfl rfl rfl (gn rfl rfl rfl rfl (xo (q_pick_t rfl rfl rfl) rfl (nl (et (ev_cond_kt rfl rfl (sq (rg (xl ttOk rfl rfl (xst ttOk rfl rfl (xs rfl rfl (nl (et (ev_ret (evr_then (ret_pureN ttOk rfl rfl ?_))))))))))))))))))))))))))))
   first
   | (rw [rott_no ‹_›]; simp [RpLe, L2, RcLe, zeroD]; done)
   | (rw [rott_fail ‹_› (rotOk1 ‹_›)]; simp [RpLe, L2, RcLe]; done)
   | (rw [rott_fail ‹_› (rotOk2 hx2 ‹_›)]; simp [RpLe, L2, RcLe]; done)
   | (rw [rott_fail ‹_› (rotOk3 ‹_›)]; simp [RpLe, L2, RcLe]; done)
   | (rw [rott_yes ‹_› (rotOk4 ‹_› hx2 ‹_› ‹_›)]; simp [RpLe, L2, RcLe, rotD]; done)
  ·try (have hx1 := inB_iff.1 (show inB x 0 ((d.kept.length : Int) - 1) = true from h2))
   try (have hx2 : x.toNat < d.kept.length := by omega)
   try (have hkl := kept_len h1 hx2)
   refine gm (nf h2) rfl rfl rfl rfl (go (nf h2) rfl rfl (q_fieldAddr ttOk rfl) rfl (go (nf h2) rfl rfl (q_load ttOk rfl) rfl (gm (nf h2) rfl rfl rfl rfl (go (nf h2) rfl rfl (q_ix_map (m := x.toNat) ttOk rfl rfl rfl om om) rfl (go (nf h2) rfl rfl (q_load ttOk rfl) rfl (go (nf h2) rfl rfl (q_len_map ttOk rfl rfl) rfl (go (nf h2) rfl rfl (q_ar rfl rfl rfl om) rfl (evl_callg rfl rfl (nf h2) (nm := 30) (cf rfl) (c_between _ _ _) (rs_of rfl) rfl rfl rfl (go (nf h2) rfl rfl (q_not rfl) rfl (xo (q_pick_f rfl (nf h2) rfl) rfl (xm rfl rfl (evl_partn rfl rfl (fun h3 => ?_) (fun h3 => ?_)))))))))))))
   ·try (have hp9 := inB_iff.1 (show inB p 0 ((d.kept[x.toNat].length : Int) - 1) = true from h3))
    refine gn (nt h3) rfl rfl rfl (gn (nt h3) rfl rfl rfl (gn (nt h3) rfl rfl rfl (xo (q_pick_t rfl (nt h3) rfl) rfl (nl (et (ev_cond_kt rfl rfl (sq (rg (xl ttOk rfl rfl (xst ttOk rfl rfl (xs rfl rfl (nl (et (ev_ret (evr_then (ret_pureN ttOk rfl rfl ?_))))))))))))))))
    first
    | (rw [rott_no ‹_›]; simp [RpLe, L2, RcLe, zeroD]; done)
    | (rw [rott_fail ‹_› (rotOk1 ‹_›)]; simp [RpLe, L2, RcLe]; done)
    | (rw [rott_fail ‹_› (rotOk2 hx2 ‹_›)]; simp [RpLe, L2, RcLe]; done)
    | (rw [rott_fail ‹_› (rotOk3 ‹_›)]; simp [RpLe, L2, RcLe]; done)
    | (rw [rott_yes ‹_› (rotOk4 ‹_› hx2 ‹_› ‹_›)]; simp [RpLe, L2, RcLe, rotD]; done)
   ·try (have hp9 := inB_iff.1 (show inB p 0 ((d.kept[x.toNat].length : Int) - 1) = true from h3))
    refine gm (nf h3) rfl rfl rfl rfl (evl_callg rfl rfl (nf h3) (nm := 35) (cf rfl) (c_between _ _ _) (rs_of rfl) rfl rfl rfl (go (nf h3) rfl rfl (q_not rfl) rfl (xo (q_pick_f rfl (nf h3) rfl) rfl (nl (et (ev_cond_n rfl (fun h4 => ?_) (fun h4 => ?_)))))))
    ·try (have hp9 := inB_iff.1 (show inB p 0 ((d.kept[x.toNat].length : Int) - 1) = true from h4))
     refine sq (rg (xl ttOk rfl rfl (xst ttOk rfl rfl (xs rfl rfl (nl (et (ev_ret (evr_then (ret_pureN ttOk rfl rfl ?_)))))))))
     first
     | (rw [rott_no ‹_›]; simp [RpLe, L2, RcLe, zeroD]; done)
     | (rw [rott_fail ‹_› (rotOk1 ‹_›)]; simp [RpLe, L2, RcLe]; done)
     | (rw [rott_fail ‹_› (rotOk2 hx2 ‹_›)]; simp [RpLe, L2, RcLe]; done)
     | (rw [rott_fail ‹_› (rotOk3 ‹_›)]; simp [RpLe, L2, RcLe]; done)
     | (rw [rott_yes ‹_› (rotOk4 ‹_› hx2 ‹_› ‹_›)]; simp [RpLe, L2, RcLe, rotD]; done)
    ·try (have hp9 := inB_iff.1 (show inB p 0 ((d.kept[x.toNat].length : Int) - 1) = true from h4))
     refine ev_skip (et (sq (rg (xf ttOk rfl rfl (xl ttOk rfl rfl (xm rfl rfl (xo (q_ix_rt (m := x.toNat) ttOk rfl rfl rfl rfl rfl om (by simp; omega)) rfl (xo (q_load_pr ttOk rfl rfl rfl rfl (get_map om) rfl rfl) rfl (xm rfl rfl (xm rfl rfl (evl_st_sub (q := p.toNat) ttOk rfl rfl rfl rfl rfl om (by simp; omega) rfl rfl rfl (get_map om) rfl (rot_rows om) rfl rfl rfl rfl ?_)))))))))))
     refine nl (et (sq (rg (xl ttOk rfl rfl (xst ttOk rfl rfl (xs rfl rfl (nl (et (ev_ret (ret_pureN ttOk rfl rfl ?_))))))))))
     first
     | (rw [rott_no ‹_›]; simp [RpLe, L2, RcLe, zeroD]; done)
     | (rw [rott_fail ‹_› (rotOk1 ‹_›)]; simp [RpLe, L2, RcLe]; done)
     | (rw [rott_fail ‹_› (rotOk2 hx2 ‹_›)]; simp [RpLe, L2, RcLe]; done)
     | (rw [rott_fail ‹_› (rotOk3 ‹_›)]; simp [RpLe, L2, RcLe]; done)
     | (rw [rott_yes ‹_› (rotOk4 ‹_› hx2 ‹_› ‹_›)]; simp [RpLe, L2, RcLe, rotD]; done)
theorem c_SafeIn' (d : Disk) : Pure Try.prog 41 [many (diskC d)] (bR (safeF d)) := by
 refine pure_intro (N := 11) Try.func41 rfl rfl rfl rfl (fun H w => ?_)
 refine sq (rg (evl_e (e_box rfl rfl rfl rfl) (xs rfl rfl (nl (et (sq (rg (xl ttOk rfl rfl (evl_call (nm := 4) (cf rfl) (c_DiskOk' d) (rs_of rfl) rfl rfl rfl (xm rfl rfl (evl_part rfl rfl (fun h1 => ?_) (fun h1 => ?_))))))))))))
 ·refine go h1 rfl rfl (q_fieldAddr ttOk rfl) rfl (go h1 rfl rfl (q_load ttOk rfl) rfl (go h1 rfl rfl (q_len_map ttOk rfl rfl) rfl (go h1 rfl rfl (q_bin ttOk rfl) rfl (xo (q_pick_t rfl h1 rfl) rfl (xs rfl rfl (nl (et (ev_ret (ret_pure' ttOk rfl rfl (congrArg bR (?_ : _ = _)))))))))))
  simp_all [safeF]
 ·refine gn h1 rfl rfl rfl (gn h1 rfl rfl rfl (gn h1 rfl rfl rfl (gn h1 rfl rfl rfl (xo (q_pick_f rfl h1 rfl) rfl (xs rfl rfl (nl (et (ev_ret (ret_pure' ttOk rfl rfl (congrArg bR (?_ : _ = _)))))))))))
  simp_all [safeF]
theorem c_EqualIn1 (D : Disk) (h : diskOk D = true) (hw : D.wait = []) : Pure Try.prog 17 [many (twoC ⟨D, D⟩)] (bR true) := by
 refine pure_intro (N := 39) Try.func17 rfl rfl rfl rfl (fun H w => ?_)
 have hs := diskOk_sizes h
 have hsf : safeF D = true := by simp [safeF, h, hw]
 have htw : twoOk ⟨D, D⟩ = true := by simp [twoOk, h]
 refine sq (rg (evl_e (e_box rfl rfl rfl rfl) (xs rfl rfl (nl (et (sq (sq (rg (xl ttOk rfl rfl (evl_call (nm := 6) (cf rfl) (c_TwoOk' ⟨D, D⟩) (rs_of rfl) rfl rfl rfl (xo (q_not rfl) rfl (xm rfl rfl (go (nf htw) rfl rfl (q_fieldAddr ttOk rfl) rfl (go (nf htw) rfl rfl (q_load ttOk rfl) rfl (evl_callg rfl rfl (nf htw) (nm := 11) (cf rfl) (c_SafeIn' D) (rs_of rfl) rfl rfl rfl (go (nf htw) rfl rfl (q_not rfl) rfl (xo (q_pick_f rfl (nf htw) rfl) rfl (xm rfl rfl (go (nf hsf) rfl rfl (q_fieldAddr ttOk rfl) rfl (go (nf hsf) rfl rfl (q_load ttOk rfl) rfl (evl_callg rfl rfl (nf hsf) (nm := 17) (cf rfl) (c_SafeIn' D) (rs_of rfl) rfl rfl rfl (go (nf hsf) rfl rfl (q_not rfl) rfl (xo (q_pick_f rfl (nf hsf) rfl) rfl (nl (et (ev_cond_kf rfl (nf hsf) (ev_skip (et (sq (sq (rg (xf ttOk rfl rfl (xf ttOk rfl rfl (xl ttOk rfl rfl (xo (q_len_map ttOk rfl rfl) rfl (xm rfl rfl (nl (et (ev_blk (ev_loop (fun k : Nat => (⟨[(24, iV k), (22, cV (rows D.kept)), (23, iV D.kept.length), (1, pbV 1 0)], [(1, 35, [.c (rows D.kept), .c (writes D.wait), .c (rows D.kept), .c (writes D.wait)])], [], []⟩ : St)) (fun k => k ≤ D.kept.length) (fun k => D.kept.length - k) 0 [] (by simp) lei ?_))))))))))))))))))))))))))))))))))))))))
 intro k hp
 have p0 := hp
 show Ev _ _ _ _ (⟨[(24, iV k), (22, cV (rows D.kept)), (23, iV D.kept.length), (1, pbV 1 0)], [(1, 35, [.c (rows D.kept), .c (writes D.wait), .c (rows D.kept), .c (writes D.wait)])], [], []⟩ : St)
 refine sq (rg (xb ttOk rfl rfl (nl (et (sq (ev_cond rfl (fun h1 => ?_) (fun h1 => ?_)))))))
 ·try have d1 := of_decide_eq_true h1
  refine ev_skip (et (sq (ev_blk (sq (rg (xm rfl rfl (xo (q_ix_map ttOk rfl rfl rfl rfl om) rfl (xl ttOk rfl rfl (xs rfl rfl (xs rfl rfl (nl (et (sq (rg (xm rfl rfl (xf ttOk rfl rfl (xf ttOk rfl rfl (xl ttOk rfl rfl (xm rfl rfl (xo (q_ix_map ttOk rfl rfl rfl rfl om) rfl (xl ttOk rfl rfl (evl_call (nm := 36) (cf rfl) (c_SameRow' (D.kept[k]'om) (D.kept[k]'om)) (rs_of rfl) rfl rfl rfl (xo (q_not rfl) rfl (nl (et (ev_cond_kf rfl (nf (eqL_same _)) (ev_skip (eb (et (rg (xa rfl rfl rfl om rfl (xm rfl rfl (nl (eve_round (k + 1) [] ?hp lei))))))))))))))))))))))))))))))))))
  case hp => exact ⟨by omega, by omega⟩
 ·try have d1 := of_decide_eq_false h1
  refine ev_exit (evx_then (evx_then (evx_hit (et (sq (rg (xs rfl rfl (nl (et (ev_ret (ret_pure' ttOk rfl rfl ?_)))))))))))
  rfl
theorem c_LastOf1 (b : Book) (hb : bookOk b = true) : Pure Try.prog 14 [many (bookC b)] (iR (lastB b)) := by
 refine pure_intro (N := 8) Try.func14 rfl rfl rfl rfl (fun H w => ?_)
 refine sq (rg (evl_e (e_box rfl rfl rfl rfl) (xs rfl rfl (nl (et (sq (sq (rg (xl ttOk rfl rfl (evl_call (nm := 4) (cf rfl) (c_BookOk' b) (rs_of rfl) rfl rfl rfl (xo (q_not rfl) rfl (nl (et (ev_cond_kf rfl (nf hb) (ev_skip (et (sq (rg (xl ttOk rfl rfl (evl_call (nm := 7) (cf rfl) (c_lastOf b hb) (rs_of rfl) rfl rfl rfl (xs rfl rfl (nl (et (ev_ret (ret_pure' ttOk rfl rfl ?_)))))))))))))))))))))))))
 rfl
theorem set_here {S : List Int} {q : Nat} {y : Int} (h : q < S.length) : ((S.set q y).map fun x => [iC x])[q]? = some [iC y] := by
 rw [List.getElem?_map, List.getElem?_set_self h]; rfl
theorem set_num {S : List Int} {q : Nat} {y : Int} : ((S.set q y).map fun x => [iC x]) = (S.map fun x => [iC x]).set q [iC y] := by
 rw [List.map_set]
theorem c_w9List (m : Nat) (hm : m ≤ 20) : Rolls Try.prog 55 6 [one (entries []), one (iC m)] (α := List Entry) (fun l => Wl l ∧ l.length = m) (fun l => [one' (entriesR l)]) := by
 refine rolls_intro (N := 81) Try.func6 rfl rfl rfl rfl (fun H w g v0 bn δ0 hsrc => ?_)
 refine sq (rg (xs rfl rfl (nl (et (sq (rg (evl_e (e_lit ttOk rfl rfl rfl) (xs rfl rfl (nl (et (sq (rg (evl_e (e_make (m := 6) ttOk rfl rfl rfl rfl rfl rfl rfl om rfl rfl) (xs rfl rfl (nl (et (sq (rg (xs rfl rfl (nl (et (sq (rg (xs rfl rfl (nl (et (sq (sq (rg (xs rfl rfl (nl (et (ev_blk (ev_rounds 1 (sq (sq (rg (xm rfl rfl (xm rfl rfl (xo (q_len_map ttOk rfl rfl) rfl (xb ttOk rfl rfl (nl (et (ev_cond_kf rfl rfl (ev_exit (evx_then (evx_then (evx_hit (et (sq ?_))))))))))))))))))))))))))))))))))))))))))))))))))
 refine ev_blk (ev_loop (fun i : Nat × Int × List Entry × List Int × Int × Int × DS bn => (⟨[(0, pbV 0 0), (2, iV i.2.1), (7, .p false [.rt 101]), (8, .p false [.rt 102]), (9, iV i.2.2.2.2.2.1), (10, iV i.2.2.2.2.1)], [(0, 55, diceA v0 i.2.2.2.2.2.2)], [(101, 59, 9, (i.2.2.1.map entryC)), (102, 2, 1, (i.2.2.2.1.map fun x => [iC x]))], []⟩ : St)) (fun i => i.2.1 = (m : Int) - i.1 ∧ i.1 ≤ m ∧ i.2.2.1.length = i.1 ∧ Wg i.2.2.1 i.2.2.2.1 i.2.2.2.2.1 ∧ i.2.2.2.2.2.1 = i.1) (fun i => m - i.1) (0, m, [], List.replicate 6 0, 0, 0, δ0) [(101, 13), (102, 14)] (⟨by simp, by simp, rfl, Wg.new, rfl⟩) ⟨trf, trf, ⟨⟨_, rfl, by rfl⟩, ⟨_, rfl, by rfl⟩, trivial⟩, tre, rfl⟩ ?_)
 intro i hp
 obtain ⟨k, z, l, S, t, i9, δ⟩ := i
 have hp : z = (m : Int) - k ∧ k ≤ m ∧ l.length = k ∧ Wg l S t ∧ i9 = k := hp
 obtain ⟨p0, p1, p2, p3, p4⟩ := hp
 show Ev _ _ _ _ (⟨[(0, pbV 0 0), (2, iV z), (7, .p false [.rt 101]), (8, .p false [.rt 102]), (9, iV i9), (10, iV t)], [(0, 55, diceA v0 δ)], [(101, 59, 9, (l.map entryC)), (102, 2, 1, (S.map fun x => [iC x]))], []⟩ : St)
 refine sq (sq (rg (xm rfl rfl (xb ttOk rfl rfl (nl (et (ev_cond rfl (fun h1 => ?_) (fun h1 => ?_))))))))
 ·try have d1 := of_decide_eq_true h1
  refine ev_skip (et (sq (ev_blk (sq (rg (xm rfl rfl (evl_roll (nm := 48) (cf rfl) (c_below _ om) rfl rfl hsrc (rs_of rfl) (fun _ => rfl) (fun yw δ2 r2 => ?_))))))))
  refine rlk rfl rfl rfl ?_
  obtain ⟨r2a, r2b⟩ := r2
  refine xa rfl rfl rfl om rfl (xs rfl rfl (nl (et (sq ?_))))
  generalize hw9 : 2 + yw = w9
  obtain ⟨q, rfl⟩ := Int.eq_ofNat_of_zero_le (show 0 ≤ w9 by omega)
  have hq : 2 ≤ q ∧ q ≤ 5 := by omega
  have hsl := p3.sl
  have hsq := p3.sq (q := q) om om
  have hSq : S.getD (q : Int).toNat 0 = S[q]'om := by rw [List.getD_eq_getElem?_getD, List.getElem?_eq_getElem om]; rfl
  rw [hSq] at hsq
  have htm := p3.tm
  refine ev_drawd [11] g mo (rdd_pure 0 rfl kr trivial (qw_move rfl) rfl (rdd_pure 1 rfl kr trivial (qw_move rfl) rfl (rdd_pure 2 rfl kr trivial (qw_move rfl) rfl (rdd_pure 3 rfl kr trivial (qw_move rfl) rfl (rdd_take 0 0 4 rfl kr trivial rfl rfl rfl rfl (q_ix_rt (m := q) ttOk rfl rfl rfl rfl rfl rfl (by simp; omega)) rfl rfl (rdd_take 0 0 5 rfl kr trivial rfl rfl rfl rfl (q_load_pr ttOk rfl rfl rfl rfl (get_map om) rfl rfl) rfl rfl (rdd_pure 6 rfl kr trivial (qw_ar rfl rfl rfl om) rfl (rdd_pure 7 rfl kr trivial (qw_move rfl) rfl (rdd_1 8 kr (rddo_roll (nm := 58) 0 rfl trivial rfl rfl (cf rfl) (c_below _ om) rfl rfl hsrc (rs_of rfl) (fun _ => rfl) (fun ys δ3 r3 => ?_)))))))))))
  refine rdk rfl rfl rfl ?_
  obtain ⟨r3a, r3b⟩ := r3
  refine rdd_pure 9 rfl kr trivial (qw_ar rfl rfl rfl om) rfl (rdd_take 0 0 10 rfl kr trivial rfl rfl rfl rfl (q_ix_rt (m := q) ttOk rfl rfl rfl rfl rfl rfl (by simp; omega)) rfl rfl (rdd_1 11 kr (rddo_brk rfl kr trivial (e_st_pr ttOk rfl rfl rfl rfl rfl rfl rfl (get_map om) rfl set_num rfl rfl rfl) (rdd_endq kr (et (sq (rg (xm rfl rfl (xa rfl rfl rfl om rfl (xs rfl rfl (nl (et (sq (rg (xm rfl rfl (xm rfl rfl (evl_roll (nm := 65) (cf rfl) (c_below _ om) rfl rfl hsrc (rs_of rfl) (fun _ => rfl) (fun yd δ4 r4 => ?_))))))))))))))))))
  refine rlk rfl rfl rfl ?_
  obtain ⟨r4a, r4b⟩ := r4
  refine xa rfl rfl rfl om rfl (xs rfl rfl (nl (et (ev_drawd [12] g mo (rdd_pure 0 rfl kr trivial (qw_move rfl) rfl (rdd_pure 1 rfl kr trivial (qw_move rfl) rfl (rdd_pure 2 rfl kr trivial (qw_move rfl) rfl (rdd_pure 3 rfl kr trivial (qw_move rfl) rfl (rdd_pure 4 rfl kr trivial (qw_move rfl) rfl (rdd_pure 5 rfl kr trivial (qw_move rfl) rfl (rdd_take 0 0 6 rfl kr trivial rfl rfl rfl rfl (q_ix_rt (m := q) ttOk rfl rfl rfl rfl rfl rfl (by simp; omega)) rfl rfl (rdd_take 0 0 7 rfl kr trivial rfl rfl rfl rfl (q_load_pr ttOk rfl rfl rfl rfl (set_here om) rfl rfl) rfl rfl (rdd_pure 8 rfl kr trivial (qw_move rfl) rfl (rdd_1 9 kr (rddo_roll (nm := 76) 0 rfl trivial rfl rfl (cf rfl) c_w9Op rfl rfl hsrc (rs_of rfl) (fun _ => rfl) (fun o δ5 r5 => ?_))))))))))))))))
  refine rdk rfl rfl rfl ?_
  have ho := r5
  refine rdd_take 0 0 10 rfl kr trivial rfl rfl rfl rfl (q_build ttOk rfl) rfl rfl (rdd_1 11 kr (rddo_new rfl trivial (e_lit ttOk rfl rfl rfl) (rdd_1 12 kr (rddo_brk rfl kr trivial (e_app ttOk rfl rfl rfl rfl rfl rfl rfl (by simp; omega) rfl rfl) (rdd_pure 13 rfl kr trivial (qw_assign rfl) rfl (rdd_endq kr (eb (et (rg (xm rfl rfl (xa rfl rfl rfl om rfl (xs rfl rfl (nl (eve_round (k + 1, z - 1, l ++ [⟨i9 + 1, t + yd, q, S[q]'om + 1 + ys, o.kind, o.a, o.b, o.c, o.d⟩], S.set q (S[q]'om + 1 + ys), t + yd, i9 + 1, δ5) [(101, 79)] ?hp ⟨trf, trf, ⟨⟨_, rfl, by simp⟩, ⟨_, rfl, by rfl⟩, trivial⟩, tre, rfl⟩))))))))))))))
  case hp =>
   have hst := p3.step (o := o) om (w := q) (x := ys) (d := yd) ⟨by omega, by omega⟩ ⟨by omega, by omega⟩ ⟨by omega, by omega⟩ ho (i := i9 + 1) om (y := S[q]'om + 1 + ys) (by rw [← hSq])
   exact ⟨⟨by dsimp only; omega, by omega, by simp [p2], hst, by dsimp only; omega⟩, by omega⟩
 ·try have d1 := of_decide_eq_false h1
  refine ev_exit (evx_then (evx_then (evx_hit (et (sq (rg (xm rfl rfl (xs rfl rfl (nl (et (ev_ret ?_)))))))))))
  obtain rfl : k = m := by omega
  refine ret_roll l δ ttOk rfl rfl rfl rfl ?_ ?_
  ·simp [RpLe, L2, RcLe]
  ·exact ⟨p3.wl, p2⟩
theorem c_w9ListZ (z : Int) (m : Nat) (hz : z = m) (hm : m ≤ 20) : Rolls Try.prog 55 6 [one (entries []), one (iC z)] (α := List Entry) (fun l => Wl l ∧ l.length = m) (fun l => [one' (entriesR l)]) := by
 subst hz; exact c_w9List m hm
theorem c_w9FatesZ (z : Int) (m : Nat) (hz : z = m) (hm : m ≤ 1000) : Rolls Try.prog 55 11 [one (iC z)] (α := List Int) (fun F => F.length = m) (fun F => [one' (intsR 2 F)]) := by
 subst hz; exact c_w9Fates m hm
theorem c_w9Kept (l : List Entry) (d : Int) (hok : ∀ e ∈ l, entryOk e = true) (hlen : l.length ≤ 1000) : Takes Try.prog 8 (true, twoR newKeptF) [one (entries l), one (iC d)] [many' (twoR (wkF l d))] := by
 refine takes_intro (N := 35) Try.func8 rfl rfl rfl rfl rfl rfl (fun H w F => ?_)
 refine sq (rg (evl_e (e_box rfl rfl rfl rfl) (evl_e (e_alloc ttOk rfl rfl rfl rfl) (nl (et (sq (sq (rg (xs rfl rfl (nl (et (ev_blk (ev_loop (fun k : Nat => (⟨[(1, cV (entries l)), (2, iV d), (3, pbV 3 0), (6, pbV 6 0), (7, iV k)], [(3, 35, [.rt 101, .rt 102, .rt 103, .rt 104]), (6, 35, [.c .nil, .c .nil, .c .nil, .c .nil])], [(101, 39, 1, ((wkU l d k).a.kept.map fun r => [ints r])), (102, 92, 2, ((wkU l d k).a.wait.map fun x => [iC x.1, ints x.2])), (103, 39, 1, ((wkU l d k).b.kept.map fun r => [ints r])), (104, 92, 2, ((wkU l d k).b.wait.map fun x => [iC x.1, ints x.2]))], []⟩ : St)) (fun k => k ≤ l.length) (fun k => l.length - k) 0 [(101, 900), (102, 1900), (103, 2900), (104, 3900)] (by simp) ⟨trf, trf, ⟨⟨_, rfl, by rfl⟩, ⟨_, rfl, by rfl⟩, ⟨_, rfl, by rfl⟩, ⟨_, rfl, by rfl⟩, trivial⟩, tre, rfl⟩ ?_)))))))))))))
 intro k hp
 have p0 := hp
 show Ev _ _ _ _ (⟨[(1, cV (entries l)), (2, iV d), (3, pbV 3 0), (6, pbV 6 0), (7, iV k)], [(3, 35, [.rt 101, .rt 102, .rt 103, .rt 104]), (6, 35, [.c .nil, .c .nil, .c .nil, .c .nil])], [(101, 39, 1, ((wkU l d k).a.kept.map fun r => [ints r])), (102, 92, 2, ((wkU l d k).a.wait.map fun x => [iC x.1, ints x.2])), (103, 39, 1, ((wkU l d k).b.kept.map fun r => [ints r])), (104, 92, 2, ((wkU l d k).b.wait.map fun x => [iC x.1, ints x.2]))], []⟩ : St)
 refine sq (sq (rg (xm rfl rfl (xm rfl rfl (xo (q_len_map ttOk rfl rfl) rfl (xb ttOk rfl rfl (nl (et (ev_cond rfl (fun h1 => ?_) (fun h1 => ?_))))))))))
 ·try have d1 := of_decide_eq_true h1
  refine ev_skip (et (sq (ev_blk (sq (sq (rg (xm rfl rfl (xm rfl rfl (xb ttOk rfl rfl (nl (et (ev_cond rfl (fun h2 => ?_) (fun h2 => ?_)))))))))))))
  ·try have d2 := of_decide_eq_true h2
   refine rg (xl ttOk rfl rfl (evl_call (nm := 18) (cf rfl) (c_BothSynced' (wkU l d k)) (rs_of rfl) rfl rfl rfl (xst ttOk rfl rfl (nl (et (ev_drawq [9] mo (rk0 0 rfl (q_load ttOk rfl) rfl (rk0 1 rfl (q_move rfl) rfl (rk0 2 rfl (q_move rfl) rfl (rk0 3 rfl (q_ix_map ttOk rfl rfl rfl rfl om) rfl (rk0 4 rfl (q_load ttOk rfl) rfl (rdk_one 5 kr ?_))))))))))))
   first | refine rdo_call (nm := 25) rfl trivial (cf rfl) (c_KeptEntry' (wkU l d k) (l[k]'om) (hok _ (List.getElem_mem om))) (rs_of rfl) rfl rfl rfl ?_ | refine rdo_call (nm := 25) rfl trivial (cf rfl) (c_KeptEntry' (bothSyncF (wkU l d k)) (l[k]'om) (hok _ (List.getElem_mem om))) (rs_of rfl) rfl rfl rfl ?_
   refine rk0 6 rfl (q_move rfl) rfl (rk0 7 rfl (q_ext rfl) rfl (rdk_pure 8 rfl kr trivial (qw_ext rfl) rfl (rdk_one 9 kr (rdo_brk rfl rfl trivial (e_store ttOk rfl) (rdb_endq kr (eb (et (rg (xm rfl rfl (xa rfl rfl rfl om rfl (xs rfl rfl (nl (eve_round (k + 1) [(101, 25), (102, 1025), (103, 2025), (104, 3025)] ?hp ⟨trf, trf, ⟨⟨_, rfl, by rw [wk_nextS om (of_decide_eq_true h2)]⟩, ⟨_, rfl, by rw [wk_nextS om (of_decide_eq_true h2)]⟩, ⟨_, rfl, by rw [wk_nextS om (of_decide_eq_true h2)]⟩, ⟨_, rfl, by rw [wk_nextS om (of_decide_eq_true h2)]⟩, trivial⟩, tre, rfl⟩)))))))))))))
   case hp => exact ⟨by omega, by omega⟩
  ·try have d2 := of_decide_eq_false h2
   refine ev_skip (et (ev_drawq [9] mo (rk0 0 rfl (q_load ttOk rfl) rfl (rk0 1 rfl (q_move rfl) rfl (rk0 2 rfl (q_move rfl) rfl (rk0 3 rfl (q_ix_map ttOk rfl rfl rfl rfl om) rfl (rk0 4 rfl (q_load ttOk rfl) rfl (rdk_one 5 kr ?_))))))))
   first | refine rdo_call (nm := 25) rfl trivial (cf rfl) (c_KeptEntry' (wkU l d k) (l[k]'om) (hok _ (List.getElem_mem om))) (rs_of rfl) rfl rfl rfl ?_ | refine rdo_call (nm := 25) rfl trivial (cf rfl) (c_KeptEntry' (bothSyncF (wkU l d k)) (l[k]'om) (hok _ (List.getElem_mem om))) (rs_of rfl) rfl rfl rfl ?_
   refine rk0 6 rfl (q_move rfl) rfl (rk0 7 rfl (q_ext rfl) rfl (rdk_pure 8 rfl kr trivial (qw_ext rfl) rfl (rdk_one 9 kr (rdo_brk rfl rfl trivial (e_store ttOk rfl) (rdb_endq kr (eb (et (rg (xm rfl rfl (xa rfl rfl rfl om rfl (xs rfl rfl (nl (eve_round (k + 1) [(101, 25), (102, 1025), (103, 2025), (104, 3025)] ?hp ⟨trf, trf, ⟨⟨_, rfl, by rw [wk_next om (of_decide_eq_false h2)]⟩, ⟨_, rfl, by rw [wk_next om (of_decide_eq_false h2)]⟩, ⟨_, rfl, by rw [wk_next om (of_decide_eq_false h2)]⟩, ⟨_, rfl, by rw [wk_next om (of_decide_eq_false h2)]⟩, trivial⟩, tre, rfl⟩)))))))))))))
   case hp => exact ⟨by omega, by omega⟩
 ·try have d1 := of_decide_eq_false h1
  refine ev_exit (evx_then (evx_then (evx_hit (et (sq (sq (rg (xm rfl rfl (xm rfl rfl (xo (q_len_map ttOk rfl rfl) rfl (xb ttOk rfl rfl (nl (et (ev_cond rfl (fun h3 => ?_) (fun h3 => ?_)))))))))))))))
  ·try have d3 := of_decide_eq_true h3
   refine rg (xl ttOk rfl rfl (evl_call (nm := 33) (cf rfl) (c_BothSynced' (wkU l d k)) (rs_of rfl) rfl rfl rfl (xst ttOk rfl rfl (nl (et (sq (rg (xl ttOk rfl rfl (xst ttOk rfl rfl (nl (et (ev_ret ?_))))))))))))
   have hkl : k = l.length := by omega
   refine ret_take ttOk rfl rfl ?_
   rw [show wkF l d = bothSyncF (wkU l d k) from by unfold wkF; rw [if_pos om, hkl]]
   simp [RpLe, L2, RcLe]
  ·try have d3 := of_decide_eq_false h3
   refine ev_skip (et (sq (rg (xl ttOk rfl rfl (xst ttOk rfl rfl (nl (et (ev_ret ?_))))))))
   have hkl : k = l.length := by omega
   refine ret_take ttOk rfl rfl ?_
   rw [show wkF l d = wkU l d k from by unfold wkF; rw [if_neg om, hkl]]
   simp [RpLe, L2, RcLe]
end Go.Proofs.Ytahkjonokeifmaa
