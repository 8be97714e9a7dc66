/- Walks of functions of the program, printed by a program of the prover. -/
import Derived.Test.YtahkjonokeifmaaGreatRaF24
namespace Go.Proofs.YtahkjonokeifmaaGreat
open Go.ChangeShapes Go.WideShapes Go.ChangeAt Go.RowKit
set_option linter.unusedVariables false
set_option linter.unusedSimpArgs false
set_option maxHeartbeats 1000000
set_option maxRecDepth 100000
attribute [local irreducible] EvL Ev EvE Quiet Eff Pure RDk RDb RDo
def mixT {α : Type} (f g : α → List C) (l : List α) (k : Nat) : List (List C) := (l.take k).map g ++ (l.drop k).map f
theorem mixT_zero {α : Type} (f g : α → List C) (l : List α) : l.map f = mixT f g l 0 := by simp [mixT]
theorem mixT_len {α : Type} {f g : α → List C} {l : List α} {k : Nat} : (mixT f g l k).length = l.length := by simp [mixT]; omega
theorem mixT_at {α : Type} {f g : α → List C} {l : List α} {k : Nat} (hk : k < l.length) : (mixT f g l k)[k]? = some (f l[k]) := by
 unfold mixT
 rw [List.getElem?_append_right (by simp; omega), List.length_map, List.length_take, Nat.min_eq_left om, Nat.sub_self, List.drop_eq_getElem_cons hk]
 rfl
theorem mixT_set {α : Type} {f g : α → List C} {l : List α} {k : Nat} (hk : k < l.length) : mixT f g l (k + 1) = (mixT f g l k).set k (g l[k]) := by
 unfold mixT
 have h1 : ((l.take k).map g).length = k := by simp; omega
 rw [List.set_append_right _ _ om, h1, Nat.sub_self, List.drop_eq_getElem_cons hk, List.take_succ_eq_append_getElem hk]
 simp only [List.map_append, List.map_cons, List.map_nil, List.set_cons_zero, List.append_assoc, List.cons_append, List.nil_append]
@[reducible] def wF (x : Int × List Int) : List C := [iC x.1, ints x.2]
@[reducible] def wH (x : Int × List Int) : List C := [iC x.1, .hole]
def bothSyncF (t : Two) : Two := if twoOk t then ⟨fallF t.a [] true, fallF t.b [] true⟩ else zeroT
theorem bsync_no {t : Two} (h : twoOk t = false) : bothSyncF t = zeroT := by simp [bothSyncF, h]
theorem bsync_yes {t : Two} (h : twoOk t = true) : bothSyncF t = ⟨fallF t.a [] true, fallF t.b [] true⟩ := by simp [bothSyncF, h]
def mendedF (t : Two) (x : Int) (row : List Int) : Two := if (bothWroteF t x row).2 then bothSyncF (bothWroteF t x row).1 else (bothWroteF t x row).1
theorem c_Synced (d : Disk) : Pure Tryz.prog 131 [many (diskC d)] [many' (diskR (fallF d [] true))] := by
 refine pure_intro (N := 10) Tryz.func131 rfl rfl rfl rfl (fun H w => ?_)
 refine sq (rg (evl_e (e_box rfl rfl rfl rfl) (evl_e (e_alloc ttOk rfl rfl rfl rfl) (nl (et (sq (sq (rg (xl ttOk rfl rfl (evl_call (nm := 4) (cf rfl) (c_DiskOk d) (rs_of rfl) rfl rfl rfl (xo (q_not rfl) rfl (nl (et (ev_cond_n rfl (fun h1 => ?_) (fun h1 => ?_)))))))))))))))
 · refine sq (rg (xo (q_build ttOk rfl) rfl (xst ttOk rfl rfl (nl (et (ev_ret (evr_then (ret_pureN ttOk rfl rfl ?_))))))))
   first
   | (rw [fall_no ‹_›]; simp [RpLe, L2, RcLe, zeroD]; done)
   | (rw [fall_yes ‹_›]; simp [RpLe, L2, RcLe]; done)
   | (obtain rfl : k = d.wait.length := by omega
      rw [fall_yes ‹_›]; simp [RpLe, L2, RcLe]; done)
 · refine ev_skip (et (sq (rg (xl ttOk rfl rfl (evl_e (e_lit ttOk rfl rfl rfl) (evl_call (nm := 9) (cf rfl) (c_l3Fall d [] true ‹_›) (rs_of rfl) rfl rfl rfl (xst ttOk rfl rfl (nl (et (ev_ret (ret_pureN ttOk rfl rfl ?_)))))))))))
   first
   | (rw [fall_no ‹_›]; simp [RpLe, L2, RcLe, zeroD]; done)
   | (rw [fall_yes ‹_›]; simp [RpLe, L2, RcLe]; done)
   | (obtain rfl : k = d.wait.length := by omega
      rw [fall_yes ‹_›]; simp [RpLe, L2, RcLe]; done)
theorem c_Fallen (d : Disk) (F : List Int) : Pure Tryz.prog 137 [many (diskC d), one (ints F)] [many' (diskR (fallF d F false))] := by
 refine pure_intro (N := 12) Tryz.func137 rfl rfl rfl rfl (fun H w => ?_)
 refine sq (rg (evl_e (e_box rfl rfl rfl rfl) (evl_e (e_alloc ttOk rfl rfl rfl rfl) (nl (et (sq (sq (rg (xl ttOk rfl rfl (evl_call (nm := 6) (cf rfl) (c_DiskOk d) (rs_of rfl) rfl rfl rfl (xo (q_not rfl) rfl (nl (et (ev_cond_n rfl (fun h1 => ?_) (fun h1 => ?_)))))))))))))))
 · refine sq (rg (xo (q_build ttOk rfl) rfl (xst ttOk rfl rfl (nl (et (ev_ret (evr_then (ret_pureN ttOk rfl rfl ?_))))))))
   first
   | (rw [fall_no ‹_›]; simp [RpLe, L2, RcLe, zeroD]; done)
   | (rw [fall_yes ‹_›]; simp [RpLe, L2, RcLe]; done)
   | (obtain rfl : k = d.wait.length := by omega
      rw [fall_yes ‹_›]; simp [RpLe, L2, RcLe]; done)
 · refine ev_skip (et (sq (rg (xl ttOk rfl rfl (xm rfl rfl (evl_call (nm := 11) (cf rfl) (c_l3Fall d F false ‹_›) (rs_of rfl) rfl rfl rfl (xst ttOk rfl rfl (nl (et (ev_ret (ret_pureN ttOk rfl rfl ?_)))))))))))
   first
   | (rw [fall_no ‹_›]; simp [RpLe, L2, RcLe, zeroD]; done)
   | (rw [fall_yes ‹_›]; simp [RpLe, L2, RcLe]; done)
   | (obtain rfl : k = d.wait.length := by omega
      rw [fall_yes ‹_›]; simp [RpLe, L2, RcLe]; done)
theorem c_Synced' (d : Disk) : Pure Tryz.prog 45 [many (diskC d)] [many' (diskR (fallF d [] true))] := by
 refine pure_intro (N := 29) Tryz.func45 rfl rfl rfl rfl (fun H w => ?_)
 refine sq (rg (evl_e (e_box rfl rfl rfl rfl) (evl_e (e_alloc ttOk rfl rfl rfl rfl) (nl (et (sq (sq (rg ?_))))))))
 first | refine xo (q_load_pr ttOk rfl rfl rfl rfl (mixT_at om) rfl rfl) rfl ?_ | refine xo (q_load_pr ttOk rfl rfl rfl rfl (get_map om) rfl rfl) rfl ?_ | refine xl ttOk rfl rfl ?_
 refine evl_call (nm := 7) (cf rfl) (c_DiskOk' d) (rs_of rfl) rfl rfl rfl (xo (q_not rfl) rfl (nl (et (ev_cond_n rfl (fun h1 => ?_) (fun h1 => ?_)))))
 · try have d1 := of_decide_eq_false h1
   refine sq (rg (xo (q_build ttOk rfl) rfl (xst ttOk rfl rfl (nl (et (ev_ret (evr_then (ret_pureN ttOk rfl rfl ?_))))))))
   first
   | (rw [fall_no ‹_›]; simp [RpLe, L2, RcLe, zeroD]; done)
   | (rw [fall_yes ‹_›]; simp [RpLe, L2, RcLe]; done)
   | (obtain rfl : k = d.wait.length := by omega
      rw [fall_yes ‹_›]; simp [RpLe, L2, RcLe]; done)
 · try have d1 := of_decide_eq_true h1
   have hs := diskOk_sizes h1
   refine ev_skip (et (sq (rg ?_)))
   first | refine xo (q_load_pr ttOk rfl rfl rfl rfl (mixT_at om) rfl rfl) rfl ?_ | refine xo (q_load_pr ttOk rfl rfl rfl rfl (get_map om) rfl rfl) rfl ?_ | refine xl ttOk rfl rfl ?_
   refine evl_call (nm := 11) (cf rfl) (c_copyDisk d ‹_›) (rs_of rfl) rfl rfl rfl (evl_e (e_alloc ttOk rfl rfl rfl rfl) (xst ttOk rfl rfl (nl (et (sq (sq (rg (xf ttOk rfl rfl ?_))))))))
   first | refine xo (q_load_pr ttOk rfl rfl rfl rfl (mixT_at om) rfl rfl) rfl ?_ | refine xo (q_load_pr ttOk rfl rfl rfl rfl (get_map om) rfl rfl) rfl ?_ | refine xl ttOk rfl rfl ?_
   first | refine xo (q_len_rtm ttOk rfl rfl rfl) rfl ?_ | refine xo (q_len_map ttOk rfl rfl) rfl ?_
   refine xm rfl rfl (nl (et (ev_blk (ev_loop (fun k : Nat => (⟨[(15, iV k), (14, iV d.wait.length), (13, .p false [.rt 102]), (1, pbV 1 0), (2, pbV 2 0), (3, pbV 3 0)], [(3, 30, [.rt 101, .rt 102]), (2, 30, [.c .nil, .c .nil]), (1, 30, [.c (rows d.kept), .c (writes d.wait)])], [(101, 45, 1, ((fallUp d [] true k).map fun r => [ints r])), (102, 103, 2, mixT wF wH d.wait k)], []⟩ : St)) (fun k => k ≤ d.wait.length) (fun k => d.wait.length - k) 0 [(101, 11), (102, 1011)] (by simp) ⟨trf, trf, ⟨⟨_, rfl, by rfl⟩, ⟨_, rfl, by exact mixT_zero _ _ _⟩, trivial⟩, tre, rfl⟩ ?_))))
   intro k hp
   have p0 := hp
   show Ev _ _ _ _ (⟨[(15, iV k), (14, iV d.wait.length), (13, .p false [.rt 102]), (1, pbV 1 0), (2, pbV 2 0), (3, pbV 3 0)], [(3, 30, [.rt 101, .rt 102]), (2, 30, [.c .nil, .c .nil]), (1, 30, [.c (rows d.kept), .c (writes d.wait)])], [(101, 45, 1, ((fallUp d [] true k).map fun r => [ints r])), (102, 103, 2, mixT wF wH d.wait k)], []⟩ : St)
   refine sq (rg (xb ttOk rfl rfl (nl (et (sq (ev_cond rfl (fun h2 => ?_) (fun h2 => ?_)))))))
   · try have d2 := of_decide_eq_true h2
     refine ev_skip (et (sq (ev_blk (sq ?_))))
     have hx := wait_at ‹_› (k := k) om
     have hl := fallUp_len d [] true k
     have hrw := fallUp_rows ‹_› [] true k om
     have hM : (mixT wF wH d.wait k).length = d.wait.length := mixT_len
     refine rg (xo (q_ix_rt (m := k) ttOk rfl rfl rfl rfl rfl rfl (by rw [hM]; omega)) rfl ?_)
     first | refine xo (q_load_pr ttOk rfl rfl rfl rfl (mixT_at om) rfl rfl) rfl ?_ | refine xo (q_load_pr ttOk rfl rfl rfl rfl (get_map om) rfl rfl) rfl ?_ | refine xl ttOk rfl rfl ?_
     refine evl_e (e_alloc ttOk rfl rfl rfl rfl) (xst ttOk rfl rfl (nl (et (rg (xf ttOk rfl rfl ?_)))))
     first | refine xo (q_load_pr ttOk rfl rfl rfl rfl (mixT_at om) rfl rfl) rfl ?_ | refine xo (q_load_pr ttOk rfl rfl rfl rfl (get_map om) rfl rfl) rfl ?_ | refine xl ttOk rfl rfl ?_
     refine xf ttOk rfl rfl ?_
     first | refine xo (q_load_pr ttOk rfl rfl rfl rfl (mixT_at om) rfl rfl) rfl ?_ | refine xo (q_load_pr ttOk rfl rfl rfl rfl (get_map om) rfl rfl) rfl ?_ | refine xl ttOk rfl rfl ?_
     refine xf ttOk rfl rfl ?_
     first | refine xo (q_load_pr ttOk rfl rfl rfl rfl (mixT_at om) rfl rfl) rfl ?_ | refine xo (q_load_pr ttOk rfl rfl rfl rfl (get_map om) rfl rfl) rfl ?_ | refine xl ttOk rfl rfl ?_
     refine xo (q_ix_rt (m := (d.wait[k]'om).1.toNat) ttOk rfl rfl rfl rfl rfl om (by rw [List.length_map]; omega)) rfl (evl_take 24 24 rfl rfl rfl (mixT_at om) rfl (mixT_set (f := wF) (g := wH) (l := d.wait) om) rfl rfl (fun ty' => ?_))
     refine evl_e (eff_flt 101 (e_st_pr ttOk rfl rfl rfl rfl rfl rfl rfl (get_map om) rfl rfl rfl rfl rfl)) (nl (eb (et (rg (xa rfl rfl rfl om rfl (xm rfl rfl (nl (eve_round (k + 1) [] ?hp ⟨trf, trf, ⟨⟨_, rfl, by (first | (exact fall_kept om (by simp_all)) | (exfalso; simp_all; done))⟩, ⟨_, rfl, by rfl⟩, trivial⟩, tre, rfl⟩))))))))
     case hp => exact ⟨by omega, by omega⟩
   · try have d2 := of_decide_eq_false h2
     refine ev_exit (evx_then (evx_then (evx_hit (et (sq (rg (xf ttOk rfl rfl (xst ttOk rfl rfl (nl (et (sq (rg ?_))))))))))))
     first | refine xo (q_load_pr ttOk rfl rfl rfl rfl (mixT_at om) rfl rfl) rfl ?_ | refine xo (q_load_pr ttOk rfl rfl rfl rfl (get_map om) rfl rfl) rfl ?_ | refine xl ttOk rfl rfl ?_
     refine xst ttOk rfl rfl (nl (et (ev_ret (ret_pureN ttOk rfl rfl ?_))))
     first
     | (rw [fall_no ‹_›]; simp [RpLe, L2, RcLe, zeroD]; done)
     | (rw [fall_yes ‹_›]; simp [RpLe, L2, RcLe]; done)
     | (obtain rfl : k = d.wait.length := by omega
        rw [fall_yes ‹_›]; simp [RpLe, L2, RcLe]; done)
theorem c_Fallen' (d : Disk) (F : List Int) : Pure Tryz.prog 31 [many (diskC d), one (ints F)] [many' (diskR (fallF d F false))] := by
 refine pure_intro (N := 57) Tryz.func31 rfl rfl rfl rfl (fun H w => ?_)
 refine ev_lenm (t := 1) rfl (fun hL => ?_)
 refine sq (rg (evl_e (e_box rfl rfl rfl rfl) (evl_e (e_alloc ttOk rfl rfl rfl rfl) (nl (et (sq (sq (rg ?_))))))))
 first | refine xo (q_load_pr ttOk rfl rfl rfl rfl (mixT_at om) rfl rfl) rfl ?_ | refine xo (q_load_pr ttOk rfl rfl rfl rfl (get_map om) rfl rfl) rfl ?_ | refine xl ttOk rfl rfl ?_
 refine evl_call (nm := 11) (cf rfl) (c_DiskOk' d) (rs_of rfl) rfl rfl rfl (xo (q_not rfl) rfl (nl (et (ev_cond_n rfl (fun h1 => ?_) (fun h1 => ?_)))))
 · try have d1 := of_decide_eq_false h1
   refine sq (rg (xo (q_build ttOk rfl) rfl (xst ttOk rfl rfl (nl (et (ev_ret (evr_then (ret_pureN ttOk rfl rfl ?_))))))))
   first
   | (rw [fall_no ‹_›]; simp [RpLe, L2, RcLe, zeroD]; done)
   | (rw [fall_yes ‹_›]; simp [RpLe, L2, RcLe]; done)
   | (obtain rfl : k = d.wait.length := by omega
      rw [fall_yes ‹_›]; simp [RpLe, L2, RcLe]; done)
 · try have d1 := of_decide_eq_true h1
   have hs := diskOk_sizes h1
   refine ev_skip (et (sq (rg ?_)))
   first | refine xo (q_load_pr ttOk rfl rfl rfl rfl (mixT_at om) rfl rfl) rfl ?_ | refine xo (q_load_pr ttOk rfl rfl rfl rfl (get_map om) rfl rfl) rfl ?_ | refine xl ttOk rfl rfl ?_
   refine evl_call (nm := 15) (cf rfl) (c_copyDisk d ‹_›) (rs_of rfl) rfl rfl rfl (evl_e (e_alloc ttOk rfl rfl rfl rfl) (xst ttOk rfl rfl (nl (et (sq (sq (rg (xf ttOk rfl rfl ?_))))))))
   first | refine xo (q_load_pr ttOk rfl rfl rfl rfl (mixT_at om) rfl rfl) rfl ?_ | refine xo (q_load_pr ttOk rfl rfl rfl rfl (get_map om) rfl rfl) rfl ?_ | refine xl ttOk rfl rfl ?_
   first | refine xo (q_len_rtm ttOk rfl rfl rfl) rfl ?_ | refine xo (q_len_map ttOk rfl rfl) rfl ?_
   refine xm rfl rfl (nl (et (ev_blk (ev_loop (fun k : Nat => (⟨[(19, iV k), (18, iV d.wait.length), (17, .p false [.rt 102]), (1, cV (ints F)), (2, pbV 2 0), (4, pbV 4 0), (5, pbV 5 0)], [(5, 30, [.rt 101, .rt 102]), (4, 30, [.c .nil, .c .nil]), (2, 30, [.c (rows d.kept), .c (writes d.wait)])], [(101, 45, 1, ((fallUp d F false k).map fun r => [ints r])), (102, 103, 2, mixT wF wH d.wait k)], []⟩ : St)) (fun k => k ≤ d.wait.length) (fun k => d.wait.length - k) 0 [(101, 15), (102, 1015)] (by simp) ⟨trf, trf, ⟨⟨_, rfl, by rfl⟩, ⟨_, rfl, by exact mixT_zero _ _ _⟩, trivial⟩, tre, rfl⟩ ?_))))
   intro k hp
   have p0 := hp
   show Ev _ _ _ _ (⟨[(19, iV k), (18, iV d.wait.length), (17, .p false [.rt 102]), (1, cV (ints F)), (2, pbV 2 0), (4, pbV 4 0), (5, pbV 5 0)], [(5, 30, [.rt 101, .rt 102]), (4, 30, [.c .nil, .c .nil]), (2, 30, [.c (rows d.kept), .c (writes d.wait)])], [(101, 45, 1, ((fallUp d F false k).map fun r => [ints r])), (102, 103, 2, mixT wF wH d.wait k)], []⟩ : St)
   refine sq (rg (xb ttOk rfl rfl (nl (et (sq (ev_cond rfl (fun h2 => ?_) (fun h2 => ?_)))))))
   · try have d2 := of_decide_eq_true h2
     refine ev_skip (et (sq (ev_blk (sq ?_))))
     have hx := wait_at ‹_› (k := k) om
     have hl := fallUp_len d F false k
     have hrw := fallUp_rows ‹_› F false k om
     have hM : (mixT wF wH d.wait k).length = d.wait.length := mixT_len
     refine rg (xm rfl rfl (xo (q_ix_rt (m := k) ttOk rfl rfl rfl rfl rfl rfl (by rw [hM]; omega)) rfl ?_))
     first | refine xo (q_load_pr ttOk rfl rfl rfl rfl (mixT_at om) rfl rfl) rfl ?_ | refine xo (q_load_pr ttOk rfl rfl rfl rfl (get_map om) rfl rfl) rfl ?_ | refine xl ttOk rfl rfl ?_
     refine evl_e (e_alloc ttOk rfl rfl rfl rfl) (xs rfl rfl (xst ttOk rfl rfl (nl (et (sq (rg (xf ttOk rfl rfl ?_)))))))
     first | refine xo (q_load_pr ttOk rfl rfl rfl rfl (mixT_at om) rfl rfl) rfl ?_ | refine xo (q_load_pr ttOk rfl rfl rfl rfl (get_map om) rfl rfl) rfl ?_ | refine xl ttOk rfl rfl ?_
     refine xs rfl rfl (nl (et (sq (rg (xs rfl rfl (nl (et (sq (sq (rg (xm rfl rfl (xm rfl rfl ?_))))))))))))
     first | refine xo (q_len_rtm ttOk rfl rfl rfl) rfl ?_ | refine xo (q_len_map ttOk rfl rfl) rfl ?_
     refine xb ttOk rfl rfl (nl (et (ev_cond rfl (fun h3 => ?_) (fun h3 => ?_))))
     · try have d3 := of_decide_eq_true h3
       have hf := fate_in (F := F) (k := k) om
       refine rg (xm rfl rfl (xm rfl rfl (xo (q_ix_map ttOk rfl rfl rfl rfl om) rfl ?_)))
       first | refine xo (q_load_pr ttOk rfl rfl rfl rfl (mixT_at om) rfl rfl) rfl ?_ | refine xo (q_load_pr ttOk rfl rfl rfl rfl (get_map om) rfl rfl) rfl ?_ | refine xl ttOk rfl rfl ?_
       refine xs rfl rfl (nl (et (sq (rg (xm rfl rfl (nl (et (ev_blk (sq (ev_blk (sq (ev_blk (sq (sq (sq (rg (xb ttOk rfl rfl (xs rfl rfl (nl (et (ev_cond rfl (fun h4 => ?_) (fun h4 => ?_))))))))))))))))))))))
       · try have d4 := of_decide_eq_true h4
         refine ev_exit (evx_then (evx_then (evx_hit (et (ev_drawq [] mo (rk0 0 rfl (q_fieldAddr ttOk rfl) rfl ?_))))))
         first | refine rk0 1 rfl (q_load_pr ttOk rfl rfl rfl rfl (mixT_at om) rfl rfl) rfl ?_ | refine rk0 1 rfl (q_load_pr ttOk rfl rfl rfl rfl (get_map om) rfl rfl) rfl ?_ | refine rk0 1 rfl (q_load ttOk rfl) rfl ?_
         refine rk0 2 rfl (q_fieldAddr ttOk rfl) rfl ?_
         first | refine rk0 3 rfl (q_load_pr ttOk rfl rfl rfl rfl (mixT_at om) rfl rfl) rfl ?_ | refine rk0 3 rfl (q_load_pr ttOk rfl rfl rfl rfl (get_map om) rfl rfl) rfl ?_ | refine rk0 3 rfl (q_load ttOk rfl) rfl ?_
         refine rk0 4 rfl (q_fieldAddr ttOk rfl) rfl ?_
         first | refine rk0 5 rfl (q_load_pr ttOk rfl rfl rfl rfl (mixT_at om) rfl rfl) rfl ?_ | refine rk0 5 rfl (q_load_pr ttOk rfl rfl rfl rfl (get_map om) rfl rfl) rfl ?_ | refine rk0 5 rfl (q_load ttOk rfl) rfl ?_
         refine rk0 6 rfl (q_ix_rt (m := (d.wait[k]'om).1.toNat) ttOk rfl rfl rfl rfl rfl om (by rw [List.length_map]; omega)) rfl ?_
         first | refine rk0 7 rfl (q_load_pr ttOk rfl rfl rfl rfl (mixT_at om) rfl rfl) rfl ?_ | refine rk0 7 rfl (q_load_pr ttOk rfl rfl rfl rfl (get_map om) rfl rfl) rfl ?_ | refine rk0 7 rfl (q_load ttOk rfl) rfl ?_
         refine rdk_one 8 kr (rdo_call (nm := 47) rfl trivial (cf rfl) (c_torn (d.wait[k]'om).2 ((fallUp d F false k)[(d.wait[k]'om).1.toNat]'om) ⟨by omega, hrw _ (List.getElem_mem _)⟩) (rs_sub_sub rfl rfl (mixT_at om) rfl rfl rfl (get_map om) rfl) rfl rfl rfl (rk0 9 rfl (q_assign rfl) rfl (rdk_endq kr (eb (et (sq (rg (xf ttOk rfl rfl ?_))))))))
         first | refine xo (q_load_pr ttOk rfl rfl rfl rfl (mixT_at om) rfl rfl) rfl ?_ | refine xo (q_load_pr ttOk rfl rfl rfl rfl (get_map om) rfl rfl) rfl ?_ | refine xl ttOk rfl rfl ?_
         refine xf ttOk rfl rfl ?_
         first | refine xo (q_load_pr ttOk rfl rfl rfl rfl (mixT_at om) rfl rfl) rfl ?_ | refine xo (q_load_pr ttOk rfl rfl rfl rfl (get_map om) rfl rfl) rfl ?_ | refine xl ttOk rfl rfl ?_
         refine xm rfl rfl (xo (q_ix_rt (m := (d.wait[k]'om).1.toNat) ttOk rfl rfl rfl rfl rfl om (by rw [List.length_map]; omega)) rfl (evl_e (eff_flt 101 (e_st_pr ttOk rfl rfl rfl rfl rfl rfl rfl (get_map om) rfl rfl rfl rfl rfl)) (nl (et (ev_exit (evx_hit (eb (et (ev_take 25 25 rfl rfl rfl (mixT_at om) rfl (mixT_set (f := wF) (g := wH) (l := d.wait) om) rfl rfl (fun ty' => ?_))))))))))
         refine rg (xa rfl rfl rfl om rfl (xm rfl rfl (nl (eve_round (k + 1) [] ?hp ⟨trf, trf, ⟨⟨_, rfl, by (first | (exact fall_torn om (by simp_all) (by simp_all) (by rw [fallUp_len]; omega)) | (exfalso; simp_all; done))⟩, ⟨_, rfl, by rfl⟩, trivial⟩, tre, rfl⟩))))
         case hp => exact ⟨by omega, by omega⟩
       · try have d4 := of_decide_eq_false h4
         refine ev_skip (et (sq (rg (xb ttOk rfl rfl (xs rfl rfl (nl (et (ev_cond rfl (fun h5 => ?_) (fun h5 => ?_)))))))))
         · try have d5 := of_decide_eq_true h5
           refine ev_exit (evx_then (evx_miss rfl (evx_then (evx_hit (et (sq (rg (xf ttOk rfl rfl ?_))))))))
           first | refine xo (q_load_pr ttOk rfl rfl rfl rfl (mixT_at om) rfl rfl) rfl ?_ | refine xo (q_load_pr ttOk rfl rfl rfl rfl (get_map om) rfl rfl) rfl ?_ | refine xl ttOk rfl rfl ?_
           refine xf ttOk rfl rfl ?_
           first | refine xo (q_load_pr ttOk rfl rfl rfl rfl (mixT_at om) rfl rfl) rfl ?_ | refine xo (q_load_pr ttOk rfl rfl rfl rfl (get_map om) rfl rfl) rfl ?_ | refine xl ttOk rfl rfl ?_
           refine xm rfl rfl (xo (q_ix_rt (m := (d.wait[k]'om).1.toNat) ttOk rfl rfl rfl rfl rfl om (by rw [List.length_map]; omega)) rfl (evl_take 52 52 rfl rfl rfl (mixT_at om) rfl (mixT_set (f := wF) (g := wH) (l := d.wait) om) rfl rfl (fun ty' => ?_)))
           refine evl_e (eff_flt 101 (e_st_pr ttOk rfl rfl rfl rfl rfl rfl rfl (get_map om) rfl rfl rfl rfl rfl)) (nl (et (ev_exit (evx_hit (eb (et (rg (xa rfl rfl rfl om rfl (xm rfl rfl (nl (eve_round (k + 1) [] ?hp ⟨trf, trf, ⟨⟨_, rfl, by (first | (exact fall_kept om (by simp_all)) | (exfalso; simp_all; done))⟩, ⟨_, rfl, by rfl⟩, trivial⟩, tre, rfl⟩)))))))))))
           case hp => exact ⟨by omega, by omega⟩
         · try have d5 := of_decide_eq_false h5
           refine ev_skip (et (ev_exit (evx_miss rfl (evx_then (evx_miss rfl (evx_then (evx_hit (eb (et (ev_take 25 25 rfl rfl rfl (mixT_at om) rfl (mixT_set (f := wF) (g := wH) (l := d.wait) om) rfl rfl (fun ty' => ?_)))))))))))
           refine rg (xa rfl rfl rfl om rfl (xm rfl rfl (nl (eve_round (k + 1) [] ?hp ⟨trf, trf, ⟨⟨_, rfl, by (first | (exact fall_lost (by simp_all) (by simp_all)) | (exfalso; simp_all; done))⟩, ⟨_, rfl, by rfl⟩, trivial⟩, tre, rfl⟩))))
           case hp => exact ⟨by omega, by omega⟩
     · try have d3 := of_decide_eq_false h3
       have hf := fate_out (F := F) (k := k) om
       refine ev_skip (et (sq (rg (xm rfl rfl (nl (et (ev_blk (sq (ev_blk (sq (ev_blk (sq (sq (sq (rg (xb ttOk rfl rfl (xs rfl rfl (nl (et (ev_cond rfl (fun h6 => ?_) (fun h6 => ?_)))))))))))))))))))))
       · try have d6 := of_decide_eq_true h6
         refine ev_exit (evx_then (evx_then (evx_hit (et (ev_drawq [] mo (rk0 0 rfl (q_fieldAddr ttOk rfl) rfl ?_))))))
         first | refine rk0 1 rfl (q_load_pr ttOk rfl rfl rfl rfl (mixT_at om) rfl rfl) rfl ?_ | refine rk0 1 rfl (q_load_pr ttOk rfl rfl rfl rfl (get_map om) rfl rfl) rfl ?_ | refine rk0 1 rfl (q_load ttOk rfl) rfl ?_
         refine rk0 2 rfl (q_fieldAddr ttOk rfl) rfl ?_
         first | refine rk0 3 rfl (q_load_pr ttOk rfl rfl rfl rfl (mixT_at om) rfl rfl) rfl ?_ | refine rk0 3 rfl (q_load_pr ttOk rfl rfl rfl rfl (get_map om) rfl rfl) rfl ?_ | refine rk0 3 rfl (q_load ttOk rfl) rfl ?_
         refine rk0 4 rfl (q_fieldAddr ttOk rfl) rfl ?_
         first | refine rk0 5 rfl (q_load_pr ttOk rfl rfl rfl rfl (mixT_at om) rfl rfl) rfl ?_ | refine rk0 5 rfl (q_load_pr ttOk rfl rfl rfl rfl (get_map om) rfl rfl) rfl ?_ | refine rk0 5 rfl (q_load ttOk rfl) rfl ?_
         refine rk0 6 rfl (q_ix_rt (m := (d.wait[k]'om).1.toNat) ttOk rfl rfl rfl rfl rfl om (by rw [List.length_map]; omega)) rfl ?_
         first | refine rk0 7 rfl (q_load_pr ttOk rfl rfl rfl rfl (mixT_at om) rfl rfl) rfl ?_ | refine rk0 7 rfl (q_load_pr ttOk rfl rfl rfl rfl (get_map om) rfl rfl) rfl ?_ | refine rk0 7 rfl (q_load ttOk rfl) rfl ?_
         refine rdk_one 8 kr (rdo_call (nm := 47) rfl trivial (cf rfl) (c_torn (d.wait[k]'om).2 ((fallUp d F false k)[(d.wait[k]'om).1.toNat]'om) ⟨by omega, hrw _ (List.getElem_mem _)⟩) (rs_sub_sub rfl rfl (mixT_at om) rfl rfl rfl (get_map om) rfl) rfl rfl rfl (rk0 9 rfl (q_assign rfl) rfl (rdk_endq kr (eb (et (sq (rg (xf ttOk rfl rfl ?_))))))))
         first | refine xo (q_load_pr ttOk rfl rfl rfl rfl (mixT_at om) rfl rfl) rfl ?_ | refine xo (q_load_pr ttOk rfl rfl rfl rfl (get_map om) rfl rfl) rfl ?_ | refine xl ttOk rfl rfl ?_
         refine xf ttOk rfl rfl ?_
         first | refine xo (q_load_pr ttOk rfl rfl rfl rfl (mixT_at om) rfl rfl) rfl ?_ | refine xo (q_load_pr ttOk rfl rfl rfl rfl (get_map om) rfl rfl) rfl ?_ | refine xl ttOk rfl rfl ?_
         refine xm rfl rfl (xo (q_ix_rt (m := (d.wait[k]'om).1.toNat) ttOk rfl rfl rfl rfl rfl om (by rw [List.length_map]; omega)) rfl (evl_e (eff_flt 101 (e_st_pr ttOk rfl rfl rfl rfl rfl rfl rfl (get_map om) rfl rfl rfl rfl rfl)) (nl (et (ev_exit (evx_hit (eb (et (ev_take 25 25 rfl rfl rfl (mixT_at om) rfl (mixT_set (f := wF) (g := wH) (l := d.wait) om) rfl rfl (fun ty' => ?_))))))))))
         refine rg (xa rfl rfl rfl om rfl (xm rfl rfl (nl (eve_round (k + 1) [] ?hp ⟨trf, trf, ⟨⟨_, rfl, by (first | (exact fall_torn om (by simp_all) (by simp_all) (by rw [fallUp_len]; omega)) | (exfalso; simp_all; done))⟩, ⟨_, rfl, by rfl⟩, trivial⟩, tre, rfl⟩))))
         case hp => exact ⟨by omega, by omega⟩
       · try have d6 := of_decide_eq_false h6
         refine ev_skip (et (sq (rg (xb ttOk rfl rfl (xs rfl rfl (nl (et (ev_cond rfl (fun h7 => ?_) (fun h7 => ?_)))))))))
         · try have d7 := of_decide_eq_true h7
           refine ev_exit (evx_then (evx_miss rfl (evx_then (evx_hit (et (sq (rg (xf ttOk rfl rfl ?_))))))))
           first | refine xo (q_load_pr ttOk rfl rfl rfl rfl (mixT_at om) rfl rfl) rfl ?_ | refine xo (q_load_pr ttOk rfl rfl rfl rfl (get_map om) rfl rfl) rfl ?_ | refine xl ttOk rfl rfl ?_
           refine xf ttOk rfl rfl ?_
           first | refine xo (q_load_pr ttOk rfl rfl rfl rfl (mixT_at om) rfl rfl) rfl ?_ | refine xo (q_load_pr ttOk rfl rfl rfl rfl (get_map om) rfl rfl) rfl ?_ | refine xl ttOk rfl rfl ?_
           refine xm rfl rfl (xo (q_ix_rt (m := (d.wait[k]'om).1.toNat) ttOk rfl rfl rfl rfl rfl om (by rw [List.length_map]; omega)) rfl (evl_take 52 52 rfl rfl rfl (mixT_at om) rfl (mixT_set (f := wF) (g := wH) (l := d.wait) om) rfl rfl (fun ty' => ?_)))
           refine evl_e (eff_flt 101 (e_st_pr ttOk rfl rfl rfl rfl rfl rfl rfl (get_map om) rfl rfl rfl rfl rfl)) (nl (et (ev_exit (evx_hit (eb (et (rg (xa rfl rfl rfl om rfl (xm rfl rfl (nl (eve_round (k + 1) [] ?hp ⟨trf, trf, ⟨⟨_, rfl, by (first | (exact fall_kept om (by simp_all)) | (exfalso; simp_all; done))⟩, ⟨_, rfl, by rfl⟩, trivial⟩, tre, rfl⟩)))))))))))
           case hp => exact ⟨by omega, by omega⟩
         · try have d7 := of_decide_eq_false h7
           refine ev_skip (et (ev_exit (evx_miss rfl (evx_then (evx_miss rfl (evx_then (evx_hit (eb (et (ev_take 25 25 rfl rfl rfl (mixT_at om) rfl (mixT_set (f := wF) (g := wH) (l := d.wait) om) rfl rfl (fun ty' => ?_)))))))))))
           refine rg (xa rfl rfl rfl om rfl (xm rfl rfl (nl (eve_round (k + 1) [] ?hp ⟨trf, trf, ⟨⟨_, rfl, by (first | (exact fall_lost (by simp_all) (by simp_all)) | (exfalso; simp_all; done))⟩, ⟨_, rfl, by rfl⟩, trivial⟩, tre, rfl⟩))))
           case hp => exact ⟨by omega, by omega⟩
   · try have d2 := of_decide_eq_false h2
     refine ev_exit (evx_then (evx_then (evx_hit (et (sq (rg (xf ttOk rfl rfl (xst ttOk rfl rfl (nl (et (sq (rg ?_))))))))))))
     first | refine xo (q_load_pr ttOk rfl rfl rfl rfl (mixT_at om) rfl rfl) rfl ?_ | refine xo (q_load_pr ttOk rfl rfl rfl rfl (get_map om) rfl rfl) rfl ?_ | refine xl ttOk rfl rfl ?_
     refine xst ttOk rfl rfl (nl (et (ev_ret (ret_pureN ttOk rfl rfl ?_))))
     first
     | (rw [fall_no ‹_›]; simp [RpLe, L2, RcLe, zeroD]; done)
     | (rw [fall_yes ‹_›]; simp [RpLe, L2, RcLe]; done)
     | (obtain rfl : k = d.wait.length := by omega
        rw [fall_yes ‹_›]; simp [RpLe, L2, RcLe]; done)
theorem c_BothSynced (t : Two) : Pure Tryz.prog 103 [many (twoC t)] [many' (twoR (bothSyncF t))] := by
 refine pure_intro (N := 14) Tryz.func103 rfl rfl rfl rfl (fun H w => ?_)
 refine sq (rg (evl_e (e_box rfl rfl rfl rfl) (evl_e (e_alloc ttOk rfl rfl rfl rfl) (nl (et (sq (sq (rg (xl ttOk rfl rfl (evl_call (nm := 4) (cf rfl) (c_TwoOk t) (rs_of rfl) rfl rfl rfl (xo (q_not rfl) rfl (nl (et (ev_cond_n rfl (fun h1 => ?_) (fun h1 => ?_)))))))))))))))
 ·refine sq (rg (xo (q_build ttOk rfl) rfl (xst ttOk rfl rfl (nl (et (ev_ret (evr_then (ret_pureN ttOk rfl rfl ?_))))))))
  first
  | (rw [bsync_no ‹_›]; simp [RpLe, L2, RcLe, zeroD, zeroT]; done)
  | (rw [bsync_yes ‹_›]; simp [RpLe, L2, RcLe]; done)
 ·refine ev_skip (et (sq (ev_drawq [7] mo (rk0 0 rfl (q_fieldAddr ttOk rfl) rfl (rk0 1 rfl (q_load ttOk rfl) rfl (rk0 3 rfl (q_fieldAddr ttOk rfl) rfl (rk0 4 rfl (q_load ttOk rfl) rfl (rdk_one 2 kr ?_))))))))
  first | refine rdo_call (nm := 9) rfl trivial (cf rfl) (c_Synced t.a) (rs_of rfl) rfl rfl rfl ?_ | refine rdo_call (nm := 9) rfl trivial (cf rfl) (c_Synced t.b) (rs_of rfl) rfl rfl rfl ?_
  refine rdk_one 5 kr ?_
  first | refine rdo_call (nm := 12) rfl trivial (cf rfl) (c_Synced t.a) (rs_of rfl) rfl rfl rfl ?_ | refine rdo_call (nm := 12) rfl trivial (cf rfl) (c_Synced t.b) (rs_of rfl) rfl rfl rfl ?_
  refine rk0 6 rfl (q_build ttOk rfl) rfl (rdk_one 7 kr (rdo_brk rfl rfl trivial (e_store ttOk rfl) (rdb_endq kr (et (ev_ret (ret_pureN ttOk rfl rfl ?_))))))
  first
  | (rw [bsync_no ‹_›]; simp [RpLe, L2, RcLe, zeroD, zeroT]; done)
  | (rw [bsync_yes ‹_›]; simp [RpLe, L2, RcLe]; done)
theorem c_BothSynced' (t : Two) : Pure Tryz.prog 19 [many (twoC t)] [many' (twoR (bothSyncF t))] := by
 refine pure_intro (N := 24) Tryz.func19 rfl rfl rfl rfl (fun H w => ?_)
 refine sq (rg (evl_e (e_box rfl rfl rfl rfl) (evl_e (e_alloc ttOk rfl rfl rfl rfl) (nl (et (sq (sq (rg (xl ttOk rfl rfl (evl_call (nm := 7) (cf rfl) (c_TwoOk' t) (rs_of rfl) rfl rfl rfl (xo (q_not rfl) rfl (nl (et (ev_cond_n rfl (fun h1 => ?_) (fun h1 => ?_)))))))))))))))
 ·refine sq (rg (xo (q_build ttOk rfl) rfl (xst ttOk rfl rfl (nl (et (ev_ret (evr_then (ret_pureN ttOk rfl rfl ?_))))))))
  first
  | (rw [bsync_no ‹_›]; simp [RpLe, L2, RcLe, zeroD, zeroT]; done)
  | (rw [bsync_yes ‹_›]; simp [RpLe, L2, RcLe]; done)
 ·refine ev_skip (et (sq (rg (xl ttOk rfl rfl (evl_callv (cf rfl) hands_disks rfl rfl rfl rfl (evl_e (e_alloc ttOk rfl rfl rfl rfl) (xst ttOk rfl rfl (nl (et (sq (sq (rg (xl ttOk rfl rfl (xm rfl rfl (nl (et (ev_blk (ev_rounds 2 (sq (rg (xb ttOk rfl rfl (nl (et (sq (ev_cond_kt rfl (by first | rfl | assumption | exact nt ‹_› | exact nf ‹_›) (ev_skip (et (sq (ev_blk (sq (rg (xm rfl rfl ?_))))))))))))))))))))))))))))))))
  first | refine xo (q_index 0 ttOk rfl rfl om) rfl ?_ | refine xo (q_index 1 ttOk rfl rfl om) rfl ?_
  refine evl_e (e_alloc ttOk rfl rfl rfl rfl) (xs rfl rfl (xst ttOk rfl rfl (nl (et (rg (xm rfl rfl (xl ttOk rfl rfl ?_)))))))
  first | refine evl_call (nm := 19) (cf rfl) (c_Synced' t.a) (rs_of rfl) rfl rfl rfl ?_ | refine evl_call (nm := 19) (cf rfl) (c_Synced' t.b) (rs_of rfl) rfl rfl rfl ?_
  first | refine xo (q_ix_arr 0 ttOk rfl rfl om) rfl ?_ | refine xo (q_ix_arr 1 ttOk rfl rfl om) rfl ?_
  refine xst ttOk rfl rfl (nl (eb (et (rg (xa rfl rfl rfl om rfl (xm rfl rfl (nl (eve_again (ev_pr [1, 2, 3, 12, 13] rfl (ev_remB [5] rfl (sq (rg (xb ttOk rfl rfl (nl (et (sq (ev_cond_kt rfl (by first | rfl | assumption | exact nt ‹_› | exact nf ‹_›) (ev_skip (et (sq (ev_blk (sq (rg (xm rfl rfl ?_))))))))))))))))))))))))
  first | refine xo (q_index 0 ttOk rfl rfl om) rfl ?_ | refine xo (q_index 1 ttOk rfl rfl om) rfl ?_
  refine evl_e (e_alloc ttOk rfl rfl rfl rfl) (xs rfl rfl (xst ttOk rfl rfl (nl (et (rg (xm rfl rfl (xl ttOk rfl rfl ?_)))))))
  first | refine evl_call (nm := 1000019) (cf rfl) (c_Synced' t.a) (rs_of rfl) rfl rfl rfl ?_ | refine evl_call (nm := 1000019) (cf rfl) (c_Synced' t.b) (rs_of rfl) rfl rfl rfl ?_
  first | refine xo (q_ix_arr 0 ttOk rfl rfl om) rfl ?_ | refine xo (q_ix_arr 1 ttOk rfl rfl om) rfl ?_
  refine xst ttOk rfl rfl (nl (eb (et (rg (xa rfl rfl rfl om rfl (xm rfl rfl (nl (eve_again (ev_pr [1, 2, 3, 12, 13] rfl (ev_remB [5] rfl (sq (rg (xb ttOk rfl rfl (nl (et (sq (ev_cond_kf rfl (by first | rfl | assumption | exact nt ‹_› | exact nf ‹_›) (ev_exit (evx_then (evx_then (evx_hit (et (sq (rg (xl ttOk rfl rfl (evl_callv (cf rfl) hands_twoOf rfl rfl rfl rfl (xst ttOk rfl rfl (nl (et (ev_ret (ret_pureN ttOk rfl rfl ?_)))))))))))))))))))))))))))))))
  first
  | (rw [bsync_no ‹_›]; simp [RpLe, L2, RcLe, zeroD, zeroT]; done)
  | (rw [bsync_yes ‹_›]; simp [RpLe, L2, RcLe]; done)
theorem c_MendedAt (t : Two) (x : Int) (row : List Int) : Pure Tryz.prog 125 [many (twoC t), one (iC x), one (ints row)] [many' (twoR (mendedF t x row))] := by
 refine pure_intro (N := 21) Tryz.func125 rfl rfl rfl rfl (fun H w => ?_)
 refine sq (rg (evl_e (e_box rfl rfl rfl rfl) (evl_e (e_alloc ttOk rfl rfl rfl rfl) (nl (et (sq (rg (xl ttOk rfl rfl (xm rfl rfl (xm rfl rfl (evl_call (nm := 13) (cf rfl) (c_BothWrote t x row) (rs_of rfl) rfl rfl rfl (xm rfl rfl (xo (q_ext rfl) rfl (xo (q_ext rfl) rfl (evl_e (e_alloc ttOk rfl rfl rfl rfl) (xst ttOk rfl rfl (xs rfl rfl (nl (et (sq (sq (rg (xm rfl rfl (xo (q_not rfl) rfl (nl (et (ev_cond_n rfl (fun h1 => ?_) (fun h1 => ?_))))))))))))))))))))))))))))
 ·refine sq (rg (xl ttOk rfl rfl (xst ttOk rfl rfl (nl (et (ev_ret (evr_then (ret_pure' ttOk rfl rfl ?_))))))))
  rw [show mendedF t x row = (bothWroteF t x row).1 by simp only [mendedF, h1]; rfl]
 ·refine ev_skip (et (sq (rg (xl ttOk rfl rfl (evl_call (nm := 20) (cf rfl) (c_BothSynced (bothWroteF t x row).1) (rs_of rfl) rfl rfl rfl (xst ttOk rfl rfl (nl (et (ev_ret (ret_pure' ttOk rfl rfl ?_))))))))))
  rw [show mendedF t x row = bothSyncF (bothWroteF t x row).1 by simp only [mendedF, h1]; rfl]
theorem c_MendedAt' (t : Two) (x : Int) (row : List Int) : Pure Tryz.prog 25 [many (twoC t), one (iC x), one (ints row)] [many' (twoR (mendedF t x row))] := by
 refine pure_intro (N := 21) Tryz.func25 rfl rfl rfl rfl (fun H w => ?_)
 refine sq (rg (evl_e (e_box rfl rfl rfl rfl) (evl_e (e_alloc ttOk rfl rfl rfl rfl) (nl (et (sq (rg (xl ttOk rfl rfl (xm rfl rfl (xm rfl rfl (evl_call (nm := 13) (cf rfl) (c_BothWrote' t x row) (rs_of rfl) rfl rfl rfl (xm rfl rfl (xo (q_ext rfl) rfl (xo (q_ext rfl) rfl (evl_e (e_alloc ttOk rfl rfl rfl rfl) (xst ttOk rfl rfl (xs rfl rfl (nl (et (sq (sq (rg (xm rfl rfl (xo (q_not rfl) rfl (nl (et (ev_cond_n rfl (fun h1 => ?_) (fun h1 => ?_))))))))))))))))))))))))))))
 ·refine sq (rg (xl ttOk rfl rfl (xst ttOk rfl rfl (nl (et (ev_ret (evr_then (ret_pure' ttOk rfl rfl ?_))))))))
  rw [show mendedF t x row = (bothWroteF t x row).1 by simp only [mendedF, h1]; rfl]
 ·refine ev_skip (et (sq (rg (xl ttOk rfl rfl (evl_call (nm := 20) (cf rfl) (c_BothSynced' (bothWroteF t x row).1) (rs_of rfl) rfl rfl rfl (xst ttOk rfl rfl (nl (et (ev_ret (ret_pure' ttOk rfl rfl ?_))))))))))
  rw [show mendedF t x row = bothSyncF (bothWroteF t x row).1 by simp only [mendedF, h1]; rfl]
def noMark : Mark := ⟨0, 0, 0⟩
def findM (l : List Mark) (c : Int) : Mark := (l.find? fun m => decide (m.client = c)).getD noMark
theorem find_hit {l : List Mark} {c : Int} {k : Nat} (hk : k < l.length) (h : ∀ m ∈ l.take k, m.client ≠ c) (hc : l[k].client = c) : findM l c = l[k] := by
 have e : l.find? (fun m => decide (m.client = c)) = some l[k] := by
  conv => lhs; rw [← List.take_append_drop k l, List.drop_eq_getElem_cons hk]
  rw [List.find?_append, List.find?_eq_none.2 (by simpa using h), List.find?_cons_of_pos (by simpa using hc)]
  rfl
 simp [findM, e]
theorem find_no {l : List Mark} {c : Int} {k : Nat} (hk : ¬ k < l.length) (h : ∀ m ∈ l.take k, m.client ≠ c) : findM l c = noMark := by
 rw [List.take_of_length_le om] at h
 have e : l.find? (fun m => decide (m.client = c)) = none := List.find?_eq_none.2 (by simpa using h)
 simp [findM, e]
def seenRow (l : List Mark) : Nat → List Int
 | 0 => []
 | k + 1 => seenRow l k ++ [(findM l (2 + k)).seq, (findM l (2 + k)).index]
theorem seenRow_len (l : List Mark) : ∀ k, (seenRow l k).length = 2 * k
 | 0 => rfl
 | k + 1 => by simp [seenRow, seenRow_len l k]; omega
def headRowF (h : Head) : List Int := if headOk h then [h.num, h.base, h.time] ++ seenRow h.seen 4 ++ [h.num, h.num] else []
def newKeptF : Two := mendedF (newTwoF 22) 0 (headRowF noHead)
def newLogF : LogN := ⟨newKeptF, noHead, noHead, false, ⟨0, 0, []⟩, [], 0, []⟩
theorem c_markOf (l : List Mark) (c : Int) : Pure Tryz.prog 54 [one (marks l), one (iC c)] [many' [.v (.int .i64 (findM l c).client), .v (.int .i64 (findM l c).seq), .v (.int .i64 (findM l c).index)]] := by
 refine pure_intro (N := 20) Tryz.func54 rfl rfl rfl rfl (fun H w => ?_)
 refine ev_lenm (t := 0) rfl (fun hL => ?_)
 refine sq (rg (evl_e (e_alloc ttOk rfl rfl rfl rfl) (nl (et (sq (sq (rg (xm rfl rfl (xo (q_len_map ttOk rfl rfl) rfl (xm rfl rfl (nl (et (ev_blk (ev_loop (fun k : Nat => (⟨[(9, iV k), (8, iV l.length), (7, cV (marks l)), (1, iV c), (4, pbV 4 0)], [(4, 76, [.c (iC 0), .c (iC 0), .c (iC 0)])], [], []⟩ : St)) (fun k => k ≤ l.length ∧ ∀ m ∈ l.take k, m.client ≠ c) (fun k => l.length - k) 0 [] (⟨by simp, by simp⟩) lei ?_))))))))))))))
 intro k hp
 obtain ⟨p0, p1⟩ := hp
 show Ev _ _ _ _ (⟨[(9, iV k), (8, iV l.length), (7, cV (marks l)), (1, iV c), (4, pbV 4 0)], [(4, 76, [.c (iC 0), .c (iC 0), .c (iC 0)])], [], []⟩ : St)
 refine sq (rg (xb ttOk rfl rfl (nl (et (sq (ev_cond rfl (fun h1 => ?_) (fun h1 => ?_)))))))
 ·have d1 := of_decide_eq_true h1
  refine ev_skip (et (sq (ev_blk (sq (rg (xo (q_ix_map ttOk rfl rfl rfl rfl om) rfl (xl ttOk rfl rfl (evl_e (e_alloc ttOk rfl rfl rfl rfl) (xst ttOk rfl rfl (nl (et (sq (rg (xf ttOk rfl rfl (xl ttOk rfl rfl (xm rfl rfl (xb ttOk rfl rfl (nl (et (ev_cond rfl (fun h2 => ?_) (fun h2 => ?_)))))))))))))))))))))
  ·have d2 := of_decide_eq_true h2
   refine sq (rg (xl ttOk rfl rfl (xst ttOk rfl rfl (nl (et (ev_ret (evr_blk (evr_then (evr_then (evr_blk (evr_then (ret_pure' ttOk rfl rfl ?_))))))))))))
   first
   | (rw [find_hit (k := k) om p1 ‹_›]; done)
   | (rw [find_no (k := k) om p1]; rfl)
  ·have d2 := of_decide_eq_false h2
   refine ev_skip (eb (et (rg (xa rfl rfl rfl om rfl (xm rfl rfl (nl (eve_round (k + 1) [] ?hp lei)))))))
   case hp => exact ⟨⟨by omega, all_takeP om p1 ‹_›⟩, by omega⟩
 ·have d1 := of_decide_eq_false h1
  refine ev_exit (evx_then (evx_then (evx_hit (et (sq (rg (xo (q_build ttOk rfl) rfl (xst ttOk rfl rfl (nl (et (ev_ret (ret_pure' ttOk rfl rfl ?_))))))))))))
  first
  | (rw [find_hit (k := k) om p1 ‹_›]; done)
  | (rw [find_no (k := k) om p1]; rfl)
theorem c_MarkOf (l : List Mark) (c : Int) : Pure Tryz.prog 107 [one (marks l), one (iC c)] [many' [.v (.int .i64 (if seenOk l then findM l c else noMark).client), .v (.int .i64 (if seenOk l then findM l c else noMark).seq), .v (.int .i64 (if seenOk l then findM l c else noMark).index)]] := by
 refine pure_intro (N := 28) Tryz.func107 rfl rfl rfl rfl (fun H w => ?_)
 refine ev_lenm (t := 0) rfl (fun hL => ?_)
 refine sq (rg (evl_e (e_alloc ttOk rfl rfl rfl rfl) (nl (et (sq (sq (rg (xm rfl rfl (evl_call (nm := 7) (cf rfl) (c_SeenOk l) (rs_of rfl) rfl rfl rfl (xo (q_not rfl) rfl (nl (et (ev_cond_n rfl (fun h1 => ?_) (fun h1 => ?_))))))))))))))
 ·try have d1 := of_decide_eq_false h1
  refine sq (rg (xo (q_build ttOk rfl) rfl (xst ttOk rfl rfl (nl (et (ev_ret (evr_then (ret_pure' ttOk rfl rfl ?_))))))))
  first
  | (rw [show seenOk l = false by assumption]; rfl)
  | (rw [show seenOk l = true by assumption, if_pos rfl, find_hit (k := k) om p1 ‹_›]; done)
  | (rw [show seenOk l = true by assumption, if_pos rfl, find_no (k := k) om p1]; rfl)
 ·try have d1 := of_decide_eq_true h1
  refine ev_skip (et (sq (sq (rg (xs rfl rfl (nl (et (ev_blk (ev_loop (fun k : Nat => (⟨[(5, iV k), (0, cV (marks l)), (1, iV c), (4, pbV 4 0)], [(4, 76, [.c (iC 0), .c (iC 0), .c (iC 0)])], [], []⟩ : St)) (fun k => k ≤ l.length ∧ ∀ m ∈ l.take k, m.client ≠ c) (fun k => l.length - k) 0 [] (⟨by simp, by simp⟩) lei ?_)))))))))
  intro k hp
  obtain ⟨p0, p1⟩ := hp
  show Ev _ _ _ _ (⟨[(5, iV k), (0, cV (marks l)), (1, iV c), (4, pbV 4 0)], [(4, 76, [.c (iC 0), .c (iC 0), .c (iC 0)])], [], []⟩ : St)
  refine sq (sq (rg (xm rfl rfl (xm rfl rfl (xo (q_len_map ttOk rfl rfl) rfl (xb ttOk rfl rfl (nl (et (ev_cond rfl (fun h2 => ?_) (fun h2 => ?_))))))))))
  ·try have d2 := of_decide_eq_true h2
   refine ev_skip (et (sq (ev_blk (sq (rg (xm rfl rfl (xm rfl rfl (xo (q_ix_map ttOk rfl rfl rfl rfl om) rfl (xf ttOk rfl rfl (xl ttOk rfl rfl (xm rfl rfl (xb ttOk rfl rfl (nl (et (ev_cond rfl (fun h3 => ?_) (fun h3 => ?_))))))))))))))))
   ·try have d3 := of_decide_eq_true h3
    refine sq (rg (xm rfl rfl (xm rfl rfl (xo (q_ix_map ttOk rfl rfl rfl rfl om) rfl (xl ttOk rfl rfl (xst ttOk rfl rfl (nl (et (ev_ret (evr_blk (evr_then (evr_then (evr_blk (evr_then (ret_pure' ttOk rfl rfl ?_)))))))))))))))
    first
    | (rw [show seenOk l = false by assumption]; rfl)
    | (rw [show seenOk l = true by assumption, if_pos rfl, find_hit (k := k) om p1 ‹_›]; done)
    | (rw [show seenOk l = true by assumption, if_pos rfl, find_no (k := k) om p1]; rfl)
   ·try have d3 := of_decide_eq_false h3
    refine ev_skip (eb (et (rg (xm rfl rfl (xa rfl rfl rfl om rfl (xs rfl rfl (nl (eve_round (k + 1) [] ?hp lei))))))))
    case hp => exact ⟨⟨by omega, all_takeP om p1 ‹_›⟩, by omega⟩
  ·try have d2 := of_decide_eq_false h2
   refine ev_exit (evx_then (evx_then (evx_hit (et (sq (rg (xo (q_build ttOk rfl) rfl (xst ttOk rfl rfl (nl (et (ev_ret (ret_pure' ttOk rfl rfl ?_))))))))))))
   first
   | (rw [show seenOk l = false by assumption]; rfl)
   | (rw [show seenOk l = true by assumption, if_pos rfl, find_hit (k := k) om p1 ‹_›]; done)
   | (rw [show seenOk l = true by assumption, if_pos rfl, find_no (k := k) om p1]; rfl)
theorem headRow_next (h : Head) (k : Nat) : (([h.num, h.base, h.time] ++ seenRow h.seen k).map fun x => [iC x]) ++ [[iC (findM h.seen (2 + k)).seq], [iC (findM h.seen (2 + k)).index]] = ([h.num, h.base, h.time] ++ seenRow h.seen (k + 1)).map fun x => [iC x] := by simp [seenRow]
theorem c_HeadRow' (h : Head) : Pure Tryz.prog 22 [many (headC h)] [one' (intsR 2 (headRowF h))] := by
 refine pure_intro (N := 38) Tryz.func22 rfl rfl rfl rfl (fun H w => ?_)
 refine sq (rg (evl_e (e_box rfl rfl rfl rfl) (xs rfl rfl (nl (et (sq (sq (rg (xl ttOk rfl rfl (evl_call (nm := 7) (cf rfl) (c_HeadOk' h) (rs_of rfl) rfl rfl rfl (xo (q_not rfl) rfl (nl (et (ev_cond_n rfl (fun h1 => ?_) (fun h1 => ?_)))))))))))))))
 ·try have d1 := of_decide_eq_false h1
  refine sq (rg (xs rfl rfl (nl (et (ev_ret (evr_then (ret_pureN ttOk rfl rfl ?_)))))))
  rw [show headRowF h = [] by simp only [headRowF, h1]; rfl]; simp [RpLe, L2, RcLe]
 ·try have d1 := of_decide_eq_true h1
  have hh : seenOk h.seen = true := by
   have := h1
   simp only [headOk, Bool.and_eq_true] at this
   exact this.2.2.2.2.1
  refine ev_skip (et (sq (rg (xf ttOk rfl rfl (xl ttOk rfl rfl (xf ttOk rfl rfl (xl ttOk rfl rfl (xf ttOk rfl rfl (xl ttOk rfl rfl (evl_e (e_lit ttOk rfl rfl rfl) (xs rfl rfl (nl (et (sq (sq (rg (xs rfl rfl (nl (et (ev_blk (ev_loop (fun i : Nat × Int => (⟨[(1, pbV 1 0), (3, .p false [.rt 101]), (4, iV i.2)], [(1, 36, [.c (iC h.num), .c (iC h.base), .c (iC h.time), .c (marks h.seen)])], [(101, 2, 1, (([h.num, h.base, h.time] ++ seenRow h.seen i.1).map fun x => [iC x]))], []⟩ : St)) (fun i => i.1 ≤ 4 ∧ i.2 = (i.1 : Int) + 2) (fun i => 4 - i.1) (0, 2) [(101, 15)] (⟨by simp, rfl⟩) ⟨trf, trf, ⟨⟨_, rfl, by rfl⟩, trivial⟩, tre, rfl⟩ ?_)))))))))))))))))))))
  intro i hp
  obtain ⟨k, z⟩ := i
  have hp : k ≤ 4 ∧ z = (k : Int) + 2 := hp
  obtain ⟨p0, p1⟩ := hp
  show Ev _ _ _ _ (⟨[(1, pbV 1 0), (3, .p false [.rt 101]), (4, iV z)], [(1, 36, [.c (iC h.num), .c (iC h.base), .c (iC h.time), .c (marks h.seen)])], [(101, 2, 1, (([h.num, h.base, h.time] ++ seenRow h.seen k).map fun x => [iC x]))], []⟩ : St)
  refine sq (sq (rg (xm rfl rfl (xb ttOk rfl rfl (nl (et (ev_cond rfl (fun h2 => ?_) (fun h2 => ?_))))))))
  ·try have d2 := of_decide_eq_true h2
   refine ev_skip (et (sq (ev_blk (sq (rg (xf ttOk rfl rfl (xl ttOk rfl rfl (xm rfl rfl (evl_call (nm := 23) (cf rfl) (c_markOf h.seen z) (rs_of rfl) rfl rfl rfl (evl_e (e_alloc ttOk rfl rfl rfl rfl) (xst ttOk rfl rfl (nl (et ?_)))))))))))))
   have hsr := headRow_next h k
   refine rg (xm rfl rfl (xf ttOk rfl rfl (xl ttOk rfl rfl (xf ttOk rfl rfl (xl ttOk rfl rfl (evl_e (e_lit ttOk rfl rfl rfl) (evl_e (e_app ttOk rfl rfl rfl rfl rfl rfl rfl (by simp [seenRow_len]; omega) rfl rfl) (xs rfl rfl (nl (eb (et (rg (xm rfl rfl (xa rfl rfl rfl om rfl (xs rfl rfl (nl (eve_round (k + 1, _) [(101, 30)] ?hp ⟨trf, trf, ⟨⟨_, rfl, by rw [show (2 : Int) + k = z by omega] at hsr; exact hsr⟩, trivial⟩, tre, rfl⟩)))))))))))))))))
   case hp => exact ⟨⟨by omega, by omega⟩, by omega⟩
  ·try have d2 := of_decide_eq_false h2
   refine ev_exit (evx_then (evx_then (evx_hit (et (sq (rg (xm rfl rfl (xf ttOk rfl rfl (xl ttOk rfl rfl (xf ttOk rfl rfl (xl ttOk rfl rfl (evl_e (e_lit ttOk rfl rfl rfl) (evl_e (e_app ttOk rfl rfl rfl rfl rfl rfl rfl (by simp [seenRow_len]; omega) rfl rfl) (xs rfl rfl (nl (et (ev_ret (ret_pure' ttOk rfl rfl ?_))))))))))))))))))
   obtain rfl : k = 4 := by omega
   rw [show headRowF h = [h.num, h.base, h.time] ++ seenRow h.seen 4 ++ [h.num, h.num] by simp only [headRowF, h1]; rfl]; simp
theorem c_MarkOf2 (l : List Mark) (c : Int) (h : seenOk l = true) : Pure Tryz.prog 107 [one (marks l), one (iC c)] [many' [.v (.int .i64 (findM l c).client), .v (.int .i64 (findM l c).seq), .v (.int .i64 (findM l c).index)]] := by
 have := c_MarkOf l c
 rw [h] at this
 exact this
theorem c_HeadRow (h : Head) : Pure Tryz.prog 126 [many (headC h)] [one' (intsR 2 (headRowF h))] := by
 refine pure_intro (N := 39) Tryz.func126 rfl rfl rfl rfl (fun H w => ?_)
 refine sq (rg (evl_e (e_box rfl rfl rfl rfl) (xs rfl rfl (nl (et (sq (sq (rg (xl ttOk rfl rfl (evl_call (nm := 7) (cf rfl) (c_HeadOk h) (rs_of rfl) rfl rfl rfl (xo (q_not rfl) rfl (nl (et (ev_cond_n rfl (fun h1 => ?_) (fun h1 => ?_)))))))))))))))
 ·try have d1 := of_decide_eq_false h1
  refine sq (rg (evl_e (e_lit ttOk rfl rfl rfl) (xs rfl rfl (nl (et (ev_ret (evr_then (ret_pure' ttOk rfl rfl ?_))))))))
  rw [show headRowF h = [] by simp only [headRowF, h1]; rfl]; rfl
 ·try have d1 := of_decide_eq_true h1
  have hh : seenOk h.seen = true := by
   have := h1
   simp only [headOk, Bool.and_eq_true] at this
   exact this.2.2.2.2.1
  refine ev_skip (et (sq (rg (xf ttOk rfl rfl (xl ttOk rfl rfl (xf ttOk rfl rfl (xl ttOk rfl rfl (xf ttOk rfl rfl (xl ttOk rfl rfl (evl_e (e_lit ttOk rfl rfl rfl) (xs rfl rfl (nl (et (sq (sq (rg (xs rfl rfl (nl (et (ev_blk (ev_loop (fun i : Nat × Int => (⟨[(1, pbV 1 0), (3, .p false [.rt 101]), (4, iV i.2)], [(1, 36, [.c (iC h.num), .c (iC h.base), .c (iC h.time), .c (marks h.seen)])], [(101, 2, 1, (([h.num, h.base, h.time] ++ seenRow h.seen i.1).map fun x => [iC x]))], []⟩ : St)) (fun i => i.1 ≤ 4 ∧ i.2 = (i.1 : Int) + 2) (fun i => 4 - i.1) (0, 2) [(101, 16)] (⟨by simp, rfl⟩) ⟨trf, trf, ⟨⟨_, rfl, by rfl⟩, trivial⟩, tre, rfl⟩ ?_)))))))))))))))))))))
  intro i hp
  obtain ⟨k, z⟩ := i
  have hp : k ≤ 4 ∧ z = (k : Int) + 2 := hp
  obtain ⟨p0, p1⟩ := hp
  show Ev _ _ _ _ (⟨[(1, pbV 1 0), (3, .p false [.rt 101]), (4, iV z)], [(1, 36, [.c (iC h.num), .c (iC h.base), .c (iC h.time), .c (marks h.seen)])], [(101, 2, 1, (([h.num, h.base, h.time] ++ seenRow h.seen k).map fun x => [iC x]))], []⟩ : St)
  refine sq (sq (rg (xm rfl rfl (xb ttOk rfl rfl (nl (et (ev_cond rfl (fun h2 => ?_) (fun h2 => ?_))))))))
  ·try have d2 := of_decide_eq_true h2
   refine ev_skip (et (sq (ev_blk (sq (rg (xf ttOk rfl rfl (xl ttOk rfl rfl (xm rfl rfl (evl_call (nm := 24) (cf rfl) (c_MarkOf2 h.seen z hh) (rs_of rfl) rfl rfl rfl (evl_e (e_alloc ttOk rfl rfl rfl rfl) (xst ttOk rfl rfl (nl (et ?_)))))))))))))
   have hsr := headRow_next h k
   refine rg (xm rfl rfl (xf ttOk rfl rfl (xl ttOk rfl rfl (xf ttOk rfl rfl (xl ttOk rfl rfl (evl_e (e_lit ttOk rfl rfl rfl) (evl_e (e_app ttOk rfl rfl rfl rfl rfl rfl rfl (by simp [seenRow_len]; omega) rfl rfl) (xs rfl rfl (nl (eb (et (rg (xm rfl rfl (xa rfl rfl rfl om rfl (xs rfl rfl (nl (eve_round (k + 1, _) [(101, 31)] ?hp ⟨trf, trf, ⟨⟨_, rfl, by rw [show (2 : Int) + k = z by omega] at hsr; exact hsr⟩, trivial⟩, tre, rfl⟩)))))))))))))))))
   case hp => exact ⟨⟨by omega, by omega⟩, by omega⟩
  ·try have d2 := of_decide_eq_false h2
   refine ev_exit (evx_then (evx_then (evx_hit (et (sq (rg (xm rfl rfl (xf ttOk rfl rfl (xl ttOk rfl rfl (xf ttOk rfl rfl (xl ttOk rfl rfl (evl_e (e_lit ttOk rfl rfl rfl) (evl_e (e_app ttOk rfl rfl rfl rfl rfl rfl rfl (by simp [seenRow_len]; omega) rfl rfl) (xs rfl rfl (nl (et (ev_ret (ret_pure' ttOk rfl rfl ?_))))))))))))))))))
   obtain rfl : k = 4 := by omega
   rw [show headRowF h = [h.num, h.base, h.time] ++ seenRow h.seen 4 ++ [h.num, h.num] by simp only [headRowF, h1]; rfl]; simp
theorem c_NewKept  : Pure Tryz.prog 99 [] [many' (twoR (newKeptF))] := by
 refine pure_intro (N := 5) Tryz.func99 rfl rfl rfl rfl (fun H w => ?_)
 refine sq (rg (evl_e (e_alloc ttOk rfl rfl rfl rfl) (nl (et (sq (rg (evl_call (nm := 1) (cf rfl) (c_NewTwo 22) (rs_of rfl) rfl rfl rfl (xo (q_build ttOk rfl) rfl (evl_nilc 2 3 rfl rfl (evl_call (nm := 3) (cf rfl) (c_HeadRow noHead) (rs_of rfl) rfl rfl rfl (evl_call (nm := 4) (cf rfl) (c_MendedAt (newTwoF 22) 0 (headRowF noHead)) (rs_of rfl) rfl rfl rfl (xst ttOk rfl rfl (nl (et (ev_ret (ret_pure' ttOk rfl rfl ?_))))))))))))))))
 rfl
def q2 (q : Int) (n : LogN) : Int := q + mkN n.two.a + mkN n.two.b
def q3 (q : Int) (n : LogN) : Int := q2 q n + (3 * n.head.seen.length : Nat)
def q4 (q : Int) (n : LogN) : Int := q3 q n + (3 * n.next.seen.length : Nat)
def q5 (q : Int) (n : LogN) : Int := q4 q n + (9 * n.book.entries.length : Nat)
def q6 (q : Int) (n : LogN) : Int := q5 q n + (3 * n.seen.length : Nat)
def q7 (q : Int) (n : LogN) : Int := q6 q n + (4 * n.owe.length : Nat)
end Go.Proofs.YtahkjonokeifmaaGreat
