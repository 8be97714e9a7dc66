/- Walks of functions of the program, printed by a program of the prover. -/
import Derived.Test.YtahkjonokeifmaaGreatRaF50
namespace Go.Proofs.YtahkjonokeifmaaGreat
open Go.ChangeShapes Go.WideShapes Go.ChangeAt Go.RowKit
set_option linter.unusedVariables false
set_option linter.unusedSimpArgs false
set_option maxHeartbeats 1000000
set_option maxRecDepth 100000
attribute [local irreducible] EvL Ev EvE Quiet Eff Pure RDk RDb RDo
def setE (R : List (List Int)) (e : Entry) : List (List Int) := R.set (slotF e.index).toNat (slotRowF e)
def recRow0 (h : Head) : List (List Int) := (List.replicate 22 ([] : List Int)).set (h.num % 2).toNat (headRowF h)
def recRows (h : Head) (es : List Entry) : List (List Int) := es.foldl setE (recRow0 h)
theorem recRows_snoc (h : Head) (es : List Entry) (e : Entry) : recRows h (es ++ [e]) = setE (recRows h es) e := by simp [recRows, List.foldl_append]
theorem recRows_next {h : Head} {es : List Entry} {k : Nat} (hk : k < es.length) : setE (recRows h (es.take k)) es[k] = recRows h (es.take (k + 1)) := by
 rw [List.take_succ_eq_append_getElem hk, recRows_snoc]
theorem recRows_len (h : Head) : ∀ es, (recRows h es).length = 22 := by
 have key : ∀ (es : List Entry) (R : List (List Int)), R.length = 22 → (es.foldl setE R).length = 22 := by
  intro es
  induction es with
  | nil => intro R h; exact h
  | cons e es ih => intro R h; exact ih _ (by simp [setE, h])
 exact fun es => key es _ (by simp [recRow0])
def mendUp (R : List (List Int)) (t : Two) : Nat → Two
 | 0 => t
 | k + 1 => mendedF (mendUp R t k) k (R.getD k [])
def recF (t : Two) : Two × Head × Book × Bool := if (headIn t).2 then (mendUp (recRows (headIn t).1 (bookInF t (headIn t).1).entries) (bothSyncF t) 22, (headIn t).1, bookInF t (headIn t).1, true) else (zeroT, noHead, ⟨0, 0, []⟩, false)
theorem rec_no {t : Two} (h : (headIn t).2 = false) : recF t = (zeroT, noHead, ⟨0, 0, []⟩, false) := by simp [recF, h]
theorem rec_yes {t : Two} (h : (headIn t).2 = true) : recF t = (mendUp (recRows (headIn t).1 (bookInF t (headIn t).1).entries) (bothSyncF t) 22, (headIn t).1, bookInF t (headIn t).1, true) := by simp [recF, h]
theorem headIn_kept {t : Two} (h : (headIn t).2 = true) : keptOk t = true := by
 unfold headIn at h
 split at h
 ·assumption
 ·cases h
theorem rowHead_ok {l : List Int} {h : Head} (h1 : rowHeadF l = some h) : headOk h = true := by
 unfold rowHeadF at h1
 split at h1
 ·rename_i hh; cases h1; exact hh.2.1
 ·cases h1
theorem headFold_ok (k : Int) : ∀ (L : List (List Int)) (a : Head × Bool), (a.2 = true → headOk a.1 = true) → (L.foldl (headStep k) a).2 = true → headOk (L.foldl (headStep k) a).1 = true
 | [], a, h => h
 | r :: L, a, h => headFold_ok k L _ (by
  unfold headStep
  split
  ·rename_i hh
   intro _
   obtain ⟨h9, he⟩ := Option.isSome_iff_exists.1 hh.1
   rw [he]
   exact rowHead_ok he
  ·exact h)
theorem headUp_ok {t : Two} : ∀ k, (headUp t k).2 = true → headOk (headUp t k).1 = true
 | 0 => by intro h; cases h
 | k + 1 => headFold_ok k _ _ (headUp_ok k)
theorem headIn_ok {t : Two} (h : (headIn t).2 = true) : headOk (headIn t).1 = true := by
 have hk := headIn_kept h
 have e : headIn t = headUp t 2 := by simp [headIn, hk]
 rw [e] at h ⊢
 exact headUp_ok 2 h
theorem rec_head {t : Two} (h : (recF t).2.2.2 = true) : headOk (recF t).2.1 = true ∧ bookOk (recF t).2.2.1 = true ∧ keptOk t = true := by
 cases h1 : (headIn t).2
 ·rw [rec_no h1] at h; cases h
 ·rw [rec_yes h1]
  have h2 := headIn_ok h1
  refine ⟨h2, ?_, headIn_kept h1⟩
  simp only [bookInF, headIn_kept h1, h2]
  exact (up_ok h2 20).1
theorem bookIn_ok {t : Two} {h : Head} (h1 : keptOk t = true) (h2 : headOk h = true) : bookOk (bookInF t h) = true := by
 simp only [bookInF, h1, h2]
 exact (up_ok h2 20).1
theorem mend_next {R : List (List Int)} {t : Two} {j : Nat} (h : j < R.length) : mendedF (mendUp R t j) j R[j] = mendUp R t (j + 1) := by
 simp only [mendUp]
 rw [getD_len h]
def risenF (t : Two) : LogN × Bool := if (recF t).2.2.2 then (⟨(recF t).1, (recF t).2.1, noHead, false, (recF t).2.2.1, (seenOverF (recF t).2.1.seen (recF t).2.2.1.entries).1, lastB (recF t).2.2.1, []⟩, true) else (zeroL, false)
theorem ri_no {t : Two} (h : (recF t).2.2.2 = false) : risenF t = (zeroL, false) := by simp [risenF, h]
theorem ri_yes {t : Two} (h : (recF t).2.2.2 = true) : risenF t = (⟨(recF t).1, (recF t).2.1, noHead, false, (recF t).2.2.1, (seenOverF (recF t).2.1.seen (recF t).2.2.1.entries).1, lastB (recF t).2.2.1, []⟩, true) := by simp [risenF, h]
theorem c_SlotOf2 (x : Int) (h : indexOk x = true) : Pure Tryz.prog 134 [one (iC x)] (iR (slotF x)) := by
 have := c_SlotOf x
 rw [h] at this
 exact this
theorem headIn_not {t : Two} (h : keptOk t = false) : (headIn t).2 = false := by simp [headIn, h]
theorem c_Recovered' (t : Two) : Pure Tryz.prog 7 [many (twoC t)] [many' (twoR ((recF t).1)), many' (headR (recF t).2.1), many' (bookR (recF t).2.2.1), one' (RC.v (.bool ((recF t).2.2.2)))] := by
 refine pure_intro (N := 70) Tryz.func7 rfl rfl rfl rfl (fun H w => ?_)
 obtain ⟨hd, hhd⟩ : ∃ x, x = (headIn t).1 := ⟨_, rfl⟩
 obtain ⟨bk, hbk⟩ : ∃ x, x = bookInF t hd := ⟨_, rfl⟩
 obtain ⟨t0, ht0⟩ : ∃ x, x = bothSyncF t := ⟨_, rfl⟩
 have c1 := c_HeadIn' (bothSyncF t)
 rw [headIn_sync, ← hhd, ← ht0] at c1
 have c2 := c_BookIn' (bothSyncF t) hd
 rw [bookIn_sync, ← hbk, ← ht0] at c2
 have c3 := c_BothSynced' t
 rw [← ht0] at c3
 refine sq (rg (evl_e (e_box rfl rfl rfl rfl) (evl_e (e_alloc ttOk rfl rfl rfl rfl) (evl_e (e_alloc ttOk rfl rfl rfl rfl) (evl_e (e_alloc ttOk rfl rfl rfl rfl) (xs rfl rfl (nl (et (sq (sq (rg ?_)))))))))))
 first | refine xo (q_load_pr ttOk rfl rfl rfl rfl (get_map om) rfl rfl) rfl ?_ | refine xl ttOk rfl rfl ?_
 refine evl_call (nm := 16) (cf rfl) (c_KeptOk' t) (rs_of rfl) rfl rfl rfl (xo (q_not rfl) rfl (nl (et (ev_cond_n rfl (fun h1 => ?_) (fun h1 => ?_)))))
 · try have d1 := of_decide_eq_false h1
   refine sq (rg (xo (q_build ttOk rfl) rfl (xo (q_build ttOk rfl) rfl (xo (q_build ttOk rfl) rfl (xst ttOk rfl rfl (xst ttOk rfl rfl (xst ttOk rfl rfl (xs rfl rfl (nl (et (ev_ret (evr_then (ret_pureN ttOk rfl rfl ?_)))))))))))))
   first
   | (rw [rec_no ‹_›]; simp [RpLe, L2, RcLe, zeroD, zeroT, noHead]; done)
   | (rw [rec_no (headIn_not ‹_›)]; simp [RpLe, L2, RcLe, zeroD, zeroT, noHead]; done)
   | (obtain rfl : j = 22 := by omega
      rw [rec_yes ‹_›, ← hhd, ← hbk, ← ht0, ← hRR]; simp [RpLe, L2, RcLe]; done)
 · try have d1 := of_decide_eq_true h1
   refine ev_skip (et (sq (rg ?_)))
   first | refine xo (q_load_pr ttOk rfl rfl rfl rfl (get_map om) rfl rfl) rfl ?_ | refine xl ttOk rfl rfl ?_
   refine evl_call (nm := 22) (cf rfl) c3 (rs_of rfl) rfl rfl rfl (evl_e (e_alloc ttOk rfl rfl rfl rfl) (xst ttOk rfl rfl (nl (et (sq (rg ?_))))))
   first | refine xo (q_load_pr ttOk rfl rfl rfl rfl (get_map om) rfl rfl) rfl ?_ | refine xl ttOk rfl rfl ?_
   refine evl_call (nm := 25) (cf rfl) c1 (rs_of rfl) rfl rfl rfl (xm rfl rfl (xo (q_ext rfl) rfl (xo (q_ext rfl) rfl (evl_e (e_alloc ttOk rfl rfl rfl rfl) (xst ttOk rfl rfl (xs rfl rfl (nl (et (sq (sq (rg (xm rfl rfl (xo (q_not rfl) rfl (nl (et (ev_cond_n rfl (fun h2 => ?_) (fun h2 => ?_)))))))))))))))))
   · try have d2 := of_decide_eq_false h2
     refine sq (rg (xo (q_build ttOk rfl) rfl (xo (q_build ttOk rfl) rfl (xo (q_build ttOk rfl) rfl (xst ttOk rfl rfl (xst ttOk rfl rfl (xst ttOk rfl rfl (xs rfl rfl (nl (et (ev_ret (evr_then (ret_pureN ttOk rfl rfl ?_)))))))))))))
     first
     | (rw [rec_no ‹_›]; simp [RpLe, L2, RcLe, zeroD, zeroT, noHead]; done)
     | (rw [rec_no (headIn_not ‹_›)]; simp [RpLe, L2, RcLe, zeroD, zeroT, noHead]; done)
     | (obtain rfl : j = 22 := by omega
        rw [rec_yes ‹_›, ← hhd, ← hbk, ← ht0, ← hRR]; simp [RpLe, L2, RcLe]; done)
   · try have d2 := of_decide_eq_true h2
     have hke := headIn_kept h2
     have hho : headOk hd = true := by rw [hhd]; exact headIn_ok h2
     have hbo : bookOk bk = true := by rw [hbk]; exact bookIn_ok hke hho
     have hbd := book_bd hbo
     have hhb := head_bd hho
     obtain ⟨RR, hRR⟩ : ∃ x, x = recRows hd bk.entries := ⟨_, rfl⟩
     have hRl : RR.length = 22 := by rw [hRR]; exact recRows_len _ _
     refine ev_skip (et (sq (rg ?_)))
     first | refine xo (q_load_pr ttOk rfl rfl rfl rfl (get_map om) rfl rfl) rfl ?_ | refine xl ttOk rfl rfl ?_
     first | refine xo (q_load_pr ttOk rfl rfl rfl rfl (get_map om) rfl rfl) rfl ?_ | refine xl ttOk rfl rfl ?_
     refine evl_call (nm := 35) (cf rfl) c2 (rs_of rfl) rfl rfl rfl (evl_e (e_alloc ttOk rfl rfl rfl rfl) (xst ttOk rfl rfl (nl (et (sq (rg (xo (q_build ttOk rfl) rfl (evl_e (e_alloc ttOk rfl rfl rfl rfl) (xst ttOk rfl rfl (nl (et (ev_arr (b := 10) 10 110 22 rfl rfl rfl rfl (by decide) (by decide) rfl (ev_nils (r := 110) (m := 1) (l' := (List.replicate 22 ([] : List Int)).map fun r => [ints r]) rfl (by simp [nilTo]) rfl (sq (ev_drawq [6] mo (rk0 0 rfl (q_fieldAddr ttOk rfl) rfl ?_))))))))))))))))
     first | refine rk0 1 rfl (q_load_pr ttOk rfl rfl rfl rfl (get_map om) rfl rfl) rfl ?_ | refine rk0 1 rfl (q_load ttOk rfl) rfl ?_
     refine rk0 2 rfl (q_rem_pos rfl rfl om) rfl ?_
     first | refine rk0 3 rfl (q_load_pr ttOk rfl rfl rfl rfl (get_map om) rfl rfl) rfl ?_ | refine rk0 3 rfl (q_load ttOk rfl) rfl ?_
     refine rdk_one 4 kr (rdo_call (nm := 41) rfl trivial (cf rfl) (c_HeadRow' hd) (rs_of rfl) rfl rfl rfl (rk0 5 rfl (q_ix_arrp (hd.num % 2).toNat ttOk rfl rfl rfl om om) rfl (rdk_one 6 kr (rdo_brk rfl rfl trivial (e_st_pr ttOk rfl rfl rfl rfl rfl rfl rfl (get_map (by rw [List.length_replicate]; omega)) rfl rfl rfl rfl rfl) (rdb_endq kr (et (sq (sq (rg (xf ttOk rfl rfl ?_))))))))))
     first | refine xo (q_load_pr ttOk rfl rfl rfl rfl (get_map om) rfl rfl) rfl ?_ | refine xl ttOk rfl rfl ?_
     refine xo (q_len_rtm ttOk rfl rfl rfl) rfl (xm rfl rfl (nl (et (ev_blk (ev_loop (fun k : Nat => (⟨[(46, iV k), (44, .p false [.rt 108]), (45, iV bk.entries.length), (10, .p false [.pr 110 1 0 0]), (6, pbV 6 0), (7, pbV 7 0), (9, pbV 9 0), (2, pbV 2 0), (3, pbV 3 0), (4, pbV 4 0)], [(6, 32, [.rt 103, .rt 104, .rt 105, .rt 106]), (9, 39, [.c (iC bk.base), .c (iC bk.time), .rt 108]), (7, 36, [.c (iC hd.num), .c (iC hd.base), .c (iC hd.time), .rt 107]), (4, 39, [.c (iC 0), .c (iC 0), .c .nil]), (3, 36, [.c (iC 0), .c (iC 0), .c (iC 0), .c .nil]), (2, 32, [.c .nil, .c .nil, .c .nil, .c .nil])], [(110, 57, 1, ((recRows hd (bk.entries.take k)).map fun r => [ints r])), (103, 45, 1, (t0.a.kept.map fun r => [ints r])), (104, 103, 2, (t0.a.wait.map fun x => [iC x.1, ints x.2])), (105, 45, 1, (t0.b.kept.map fun r => [ints r])), (106, 103, 2, (t0.b.wait.map fun x => [iC x.1, ints x.2])), (107, 76, 3, (hd.seen.map markC)), (108, 62, 9, (bk.entries.map entryC))], []⟩ : St)) (fun k => k ≤ bk.entries.length) (fun k => bk.entries.length - k) 0 [(103, 22), (104, 1022), (105, 2022), (106, 3022), (107, 25), (108, 35)] (by simp) ⟨trf, trf, ⟨⟨_, rfl, by simp [recRows, recRow0, List.map_set]⟩, ⟨_, rfl, by rfl⟩, ⟨_, rfl, by rfl⟩, ⟨_, rfl, by rfl⟩, ⟨_, rfl, by rfl⟩, ⟨_, rfl, by rfl⟩, ⟨_, rfl, by rfl⟩, trivial⟩, tre, rfl⟩ ?_)))))
     intro k hp
     have p0 := hp
     show Ev _ _ _ _ (⟨[(46, iV k), (44, .p false [.rt 108]), (45, iV bk.entries.length), (10, .p false [.pr 110 1 0 0]), (6, pbV 6 0), (7, pbV 7 0), (9, pbV 9 0), (2, pbV 2 0), (3, pbV 3 0), (4, pbV 4 0)], [(6, 32, [.rt 103, .rt 104, .rt 105, .rt 106]), (9, 39, [.c (iC bk.base), .c (iC bk.time), .rt 108]), (7, 36, [.c (iC hd.num), .c (iC hd.base), .c (iC hd.time), .rt 107]), (4, 39, [.c (iC 0), .c (iC 0), .c .nil]), (3, 36, [.c (iC 0), .c (iC 0), .c (iC 0), .c .nil]), (2, 32, [.c .nil, .c .nil, .c .nil, .c .nil])], [(110, 57, 1, ((recRows hd (bk.entries.take k)).map fun r => [ints r])), (103, 45, 1, (t0.a.kept.map fun r => [ints r])), (104, 103, 2, (t0.a.wait.map fun x => [iC x.1, ints x.2])), (105, 45, 1, (t0.b.kept.map fun r => [ints r])), (106, 103, 2, (t0.b.wait.map fun x => [iC x.1, ints x.2])), (107, 76, 3, (hd.seen.map markC)), (108, 62, 9, (bk.entries.map entryC))], []⟩ : St)
     refine sq (rg (xb ttOk rfl rfl (nl (et (sq (ev_cond rfl (fun h3 => ?_) (fun h3 => ?_)))))))
     · try have d3 := of_decide_eq_true h3
       refine ev_skip (et (sq (ev_blk (sq ?_))))
       have hkl : k < bk.entries.length := by omega
       have heo := ents_ok hbd.2.2.2.2 _ (List.getElem_mem hkl)
       have hix := entry_ix heo
       have hsl : 2 ≤ slotF bk.entries[k].index ∧ slotF bk.entries[k].index ≤ 21 := by unfold slotF; omega
       have hrl := recRows_len hd (bk.entries.take k)
       refine rg (xo (q_ix_rt (m := k) ttOk rfl rfl rfl rfl rfl rfl (by simp; omega)) rfl ?_)
       first | refine xo (q_load_pr ttOk rfl rfl rfl rfl (get_map om) rfl rfl) rfl ?_ | refine xl ttOk rfl rfl ?_
       refine evl_e (e_alloc ttOk rfl rfl rfl rfl) (xst ttOk rfl rfl (nl (et (ev_drawq [6] mo (rk0 0 rfl (q_fieldAddr ttOk rfl) rfl ?_)))))
       first | refine rk0 1 rfl (q_load_pr ttOk rfl rfl rfl rfl (get_map om) rfl rfl) rfl ?_ | refine rk0 1 rfl (q_load ttOk rfl) rfl ?_
       first | refine rk0 3 rfl (q_load_pr ttOk rfl rfl rfl rfl (get_map om) rfl rfl) rfl ?_ | refine rk0 3 rfl (q_load ttOk rfl) rfl ?_
       refine rdk_one 2 kr (rdo_call (nm := 52) rfl trivial (cf rfl) (c_slotOf (bk.entries[k]'om).index om) (rs_of rfl) rfl rfl rfl (rdk_one 4 kr (rdo_call (nm := 54) rfl trivial (cf rfl) (c_SlotRow' (bk.entries[k]'om) heo) (rs_of rfl) rfl rfl rfl (rk0 5 rfl (q_ix_arrp (slotF (bk.entries[k]'om).index).toNat ttOk rfl rfl rfl om om) rfl (rdk_one 6 kr (rdo_brk rfl rfl trivial (e_st_pr ttOk rfl rfl rfl rfl rfl rfl rfl (get_map om) rfl rfl rfl rfl rfl) (rdb_endq kr (eb (et (rg (xa rfl rfl rfl om rfl (xm rfl rfl (nl (eve_round (k + 1) [] ?hp ⟨trf, trf, ⟨⟨_, rfl, by rw [← recRows_next om]; simp [setE, List.map_set]⟩, ⟨_, rfl, by rfl⟩, ⟨_, rfl, by rfl⟩, ⟨_, rfl, by rfl⟩, ⟨_, rfl, by rfl⟩, ⟨_, rfl, by rfl⟩, ⟨_, rfl, by rfl⟩, trivial⟩, tre, rfl⟩))))))))))))))
       case hp => exact ⟨by omega, by omega⟩
     · try have d3 := of_decide_eq_false h3
       refine ev_exit (evx_then (evx_then (evx_hit (et (sq (sq (rg (xo (q_load_arrp (m := 22) ttOk rfl rfl rfl (by rw [List.length_map, recRows_len]) rfl rfl) rfl (xm rfl rfl (nl (et (ev_blk (ev_loop (fun j : Nat => (⟨[(58, iV j), (57, .p true (subsF 110 0 22)), (6, pbV 6 0), (7, pbV 7 0), (9, pbV 9 0), (2, pbV 2 0), (3, pbV 3 0), (4, pbV 4 0)], [(6, 32, [.rt 103, .rt 104, .rt 105, .rt 106]), (9, 39, [.c (iC bk.base), .c (iC bk.time), .rt 108]), (7, 36, [.c (iC hd.num), .c (iC hd.base), .c (iC hd.time), .rt 107]), (4, 39, [.c (iC 0), .c (iC 0), .c .nil]), (3, 36, [.c (iC 0), .c (iC 0), .c (iC 0), .c .nil]), (2, 32, [.c .nil, .c .nil, .c .nil, .c .nil])], [(110, 57, 1, (RR.map fun r => [ints r])), (103, 45, 1, ((mendUp RR t0 j).a.kept.map fun r => [ints r])), (104, 103, 2, ((mendUp RR t0 j).a.wait.map fun x => [iC x.1, ints x.2])), (105, 45, 1, ((mendUp RR t0 j).b.kept.map fun r => [ints r])), (106, 103, 2, ((mendUp RR t0 j).b.wait.map fun x => [iC x.1, ints x.2])), (107, 76, 3, (hd.seen.map markC)), (108, 62, 9, (bk.entries.map entryC))], []⟩ : St)) (fun j => j ≤ 22) (fun j => 22 - j) 0 [] (by simp) ⟨trf, trf, ⟨⟨_, rfl, by rw [hRR, List.take_of_length_le om]⟩, ⟨_, rfl, by rfl⟩, ⟨_, rfl, by rfl⟩, ⟨_, rfl, by rfl⟩, ⟨_, rfl, by rfl⟩, ⟨_, rfl, by rfl⟩, ⟨_, rfl, by rfl⟩, trivial⟩, tre, rfl⟩ ?_)))))))))))))
       intro j hp
       have q0 := hp
       show Ev _ _ _ _ (⟨[(58, iV j), (57, .p true (subsF 110 0 22)), (6, pbV 6 0), (7, pbV 7 0), (9, pbV 9 0), (2, pbV 2 0), (3, pbV 3 0), (4, pbV 4 0)], [(6, 32, [.rt 103, .rt 104, .rt 105, .rt 106]), (9, 39, [.c (iC bk.base), .c (iC bk.time), .rt 108]), (7, 36, [.c (iC hd.num), .c (iC hd.base), .c (iC hd.time), .rt 107]), (4, 39, [.c (iC 0), .c (iC 0), .c .nil]), (3, 36, [.c (iC 0), .c (iC 0), .c (iC 0), .c .nil]), (2, 32, [.c .nil, .c .nil, .c .nil, .c .nil])], [(110, 57, 1, (RR.map fun r => [ints r])), (103, 45, 1, ((mendUp RR t0 j).a.kept.map fun r => [ints r])), (104, 103, 2, ((mendUp RR t0 j).a.wait.map fun x => [iC x.1, ints x.2])), (105, 45, 1, ((mendUp RR t0 j).b.kept.map fun r => [ints r])), (106, 103, 2, ((mendUp RR t0 j).b.wait.map fun x => [iC x.1, ints x.2])), (107, 76, 3, (hd.seen.map markC)), (108, 62, 9, (bk.entries.map entryC))], []⟩ : St)
       refine sq (rg (xb ttOk rfl rfl (nl (et (sq (ev_cond rfl (fun h4 => ?_) (fun h4 => ?_)))))))
       · try have d4 := of_decide_eq_true h4
         refine ev_skip (et (sq (ev_blk (sq (rg (xm rfl rfl (xo (q_index_sub j ttOk rfl rfl rfl rfl rfl om) rfl (xs rfl rfl (xs rfl rfl (nl (et (rg ?_))))))))))))
         first | refine xo (q_load_pr ttOk rfl rfl rfl rfl (get_map om) rfl rfl) rfl ?_ | refine xl ttOk rfl rfl ?_
         refine xm rfl rfl (xm rfl rfl (evl_call (nm := 65) (cf rfl) (c_MendedAt' (mendUp RR t0 j) j (RR[j]'om)) (rs_c3 rfl rfl rfl rfl rfl (get_map om) rfl) rfl rfl rfl (xst ttOk rfl rfl (nl (eb (et (rg (xa rfl rfl rfl om rfl (xm rfl rfl (nl (eve_round (j + 1) [(103, 65), (104, 1065), (105, 2065), (106, 3065)] ?hp ⟨trf, trf, ⟨⟨_, rfl, by rfl⟩, ⟨_, rfl, by rw [← mend_next om]⟩, ⟨_, rfl, by rw [← mend_next om]⟩, ⟨_, rfl, by rw [← mend_next om]⟩, ⟨_, rfl, by rw [← mend_next om]⟩, ⟨_, rfl, by rfl⟩, ⟨_, rfl, by rfl⟩, trivial⟩, tre, rfl⟩)))))))))))
         case hp => exact ⟨by omega, by omega⟩
       · try have d4 := of_decide_eq_false h4
         refine ev_exit (evx_then (evx_then (evx_hit (et (sq ?_)))))
         refine' ev_drawhJ mo ?hdr1 ?kdr1
         case hdr1 =>
           refine rdh_3 0 1 2 kr ?_ ?_ ?_
           · first | refine rdho_q rfl trivial (q_load_pr ttOk rfl rfl rfl rfl (get_map om) rfl rfl) rfl ?_ | refine rdho_q rfl trivial (q_load ttOk rfl) rfl ?_
             refine rdh_3 1 2 3 kr ?_ ?_ ?_
             · first | refine rdho_q rfl trivial (q_load_pr ttOk rfl rfl rfl rfl (get_map om) rfl rfl) rfl ?_ | refine rdho_q rfl trivial (q_load ttOk rfl) rfl ?_
               refine rdh_2 2 3 kr ?_ ?_
               · first | refine rdho_q rfl trivial (q_load_pr ttOk rfl rfl rfl rfl (get_map om) rfl rfl) rfl ?_ | refine rdho_q rfl trivial (q_load ttOk rfl) rfl ?_
                 refine rdh_1 3 kr (rdho_eff rfl trivial (e_store ttOk rfl) (rdh_1 4 kr (rdho_eff rfl trivial (e_store ttOk rfl) (rdh_1 5 kr (rdho_eff rfl trivial (e_store ttOk rfl) (rdh_take 6 rfl kr trivial (QuietW.h (qw_assign rfl)) rfl ?_))))))
                 exact rdh_fin kr
               · refine rdho_eff rfl trivial (e_store ttOk rfl) (rdh_2 2 4 kr ?_ ?_)
                 · first | refine rdho_q rfl trivial (q_load_pr ttOk rfl rfl rfl rfl (get_map om) rfl rfl) rfl ?_ | refine rdho_q rfl trivial (q_load ttOk rfl) rfl ?_
                   refine rdh_1 4 kr (rdho_eff rfl trivial (e_store ttOk rfl) (rdh_1 5 kr (rdho_eff rfl trivial (e_store ttOk rfl) (rdh_take 6 rfl kr trivial (QuietW.h (qw_assign rfl)) rfl ?_))))
                   exact rdh_le [] kr lei
                 · refine rdho_eff rfl trivial (e_store ttOk rfl) (rdh_1 2 kr ?_)
                   first | refine rdho_q rfl trivial (q_load_pr ttOk rfl rfl rfl rfl (get_map om) rfl rfl) rfl ?_ | refine rdho_q rfl trivial (q_load ttOk rfl) rfl ?_
                   refine rdh_1 5 kr (rdho_eff rfl trivial (e_store ttOk rfl) (rdh_take 6 rfl kr trivial (QuietW.h (qw_assign rfl)) rfl ?_))
                   exact rdh_le [] kr lei
             · first | refine rdho_q rfl trivial (q_load_pr ttOk rfl rfl rfl rfl (get_map om) rfl rfl) rfl ?_ | refine rdho_q rfl trivial (q_load ttOk rfl) rfl ?_
               refine rdh_2 1 3 kr ?_ ?_
               · first | refine rdho_q rfl trivial (q_load_pr ttOk rfl rfl rfl rfl (get_map om) rfl rfl) rfl ?_ | refine rdho_q rfl trivial (q_load ttOk rfl) rfl ?_
                 refine rdh_1 3 kr (rdho_eff rfl trivial (e_store ttOk rfl) (rdh_1 4 kr (rdho_eff rfl trivial (e_store ttOk rfl) (rdh_1 5 kr (rdho_eff rfl trivial (e_store ttOk rfl) (rdh_take 6 rfl kr trivial (QuietW.h (qw_assign rfl)) rfl ?_))))))
                 exact rdh_le [] kr lei
               · refine rdho_eff rfl trivial (e_store ttOk rfl) (rdh_1 1 kr ?_)
                 first | refine rdho_q rfl trivial (q_load_pr ttOk rfl rfl rfl rfl (get_map om) rfl rfl) rfl ?_ | refine rdho_q rfl trivial (q_load ttOk rfl) rfl ?_
                 refine rdh_1 4 kr (rdho_eff rfl trivial (e_store ttOk rfl) (rdh_1 5 kr (rdho_eff rfl trivial (e_store ttOk rfl) (rdh_take 6 rfl kr trivial (QuietW.h (qw_assign rfl)) rfl ?_))))
                 exact rdh_le [] kr lei
             · refine rdho_eff rfl trivial (e_store ttOk rfl) (rdh_2 1 2 kr ?_ ?_)
               · first | refine rdho_q rfl trivial (q_load_pr ttOk rfl rfl rfl rfl (get_map om) rfl rfl) rfl ?_ | refine rdho_q rfl trivial (q_load ttOk rfl) rfl ?_
                 refine rdh_2 2 4 kr ?_ ?_
                 · first | refine rdho_q rfl trivial (q_load_pr ttOk rfl rfl rfl rfl (get_map om) rfl rfl) rfl ?_ | refine rdho_q rfl trivial (q_load ttOk rfl) rfl ?_
                   refine rdh_1 4 kr (rdho_eff rfl trivial (e_store ttOk rfl) (rdh_1 5 kr (rdho_eff rfl trivial (e_store ttOk rfl) (rdh_take 6 rfl kr trivial (QuietW.h (qw_assign rfl)) rfl ?_))))
                   exact rdh_le [] kr lei
                 · refine rdho_eff rfl trivial (e_store ttOk rfl) (rdh_1 2 kr ?_)
                   first | refine rdho_q rfl trivial (q_load_pr ttOk rfl rfl rfl rfl (get_map om) rfl rfl) rfl ?_ | refine rdho_q rfl trivial (q_load ttOk rfl) rfl ?_
                   refine rdh_1 5 kr (rdho_eff rfl trivial (e_store ttOk rfl) (rdh_take 6 rfl kr trivial (QuietW.h (qw_assign rfl)) rfl ?_))
                   exact rdh_le [] kr lei
               · first | refine rdho_q rfl trivial (q_load_pr ttOk rfl rfl rfl rfl (get_map om) rfl rfl) rfl ?_ | refine rdho_q rfl trivial (q_load ttOk rfl) rfl ?_
                 refine rdh_1 1 kr ?_
                 first | refine rdho_q rfl trivial (q_load_pr ttOk rfl rfl rfl rfl (get_map om) rfl rfl) rfl ?_ | refine rdho_q rfl trivial (q_load ttOk rfl) rfl ?_
                 refine rdh_1 4 kr (rdho_eff rfl trivial (e_store ttOk rfl) (rdh_1 5 kr (rdho_eff rfl trivial (e_store ttOk rfl) (rdh_take 6 rfl kr trivial (QuietW.h (qw_assign rfl)) rfl ?_))))
                 exact rdh_le [] kr lei
           · first | refine rdho_q rfl trivial (q_load_pr ttOk rfl rfl rfl rfl (get_map om) rfl rfl) rfl ?_ | refine rdho_q rfl trivial (q_load ttOk rfl) rfl ?_
             refine rdh_2 0 2 kr ?_ ?_
             · first | refine rdho_q rfl trivial (q_load_pr ttOk rfl rfl rfl rfl (get_map om) rfl rfl) rfl ?_ | refine rdho_q rfl trivial (q_load ttOk rfl) rfl ?_
               refine rdh_2 2 3 kr ?_ ?_
               · first | refine rdho_q rfl trivial (q_load_pr ttOk rfl rfl rfl rfl (get_map om) rfl rfl) rfl ?_ | refine rdho_q rfl trivial (q_load ttOk rfl) rfl ?_
                 refine rdh_1 3 kr (rdho_eff rfl trivial (e_store ttOk rfl) (rdh_1 4 kr (rdho_eff rfl trivial (e_store ttOk rfl) (rdh_1 5 kr (rdho_eff rfl trivial (e_store ttOk rfl) (rdh_take 6 rfl kr trivial (QuietW.h (qw_assign rfl)) rfl ?_))))))
                 exact rdh_le [] kr lei
               · refine rdho_eff rfl trivial (e_store ttOk rfl) (rdh_2 2 4 kr ?_ ?_)
                 · first | refine rdho_q rfl trivial (q_load_pr ttOk rfl rfl rfl rfl (get_map om) rfl rfl) rfl ?_ | refine rdho_q rfl trivial (q_load ttOk rfl) rfl ?_
                   refine rdh_1 4 kr (rdho_eff rfl trivial (e_store ttOk rfl) (rdh_1 5 kr (rdho_eff rfl trivial (e_store ttOk rfl) (rdh_take 6 rfl kr trivial (QuietW.h (qw_assign rfl)) rfl ?_))))
                   exact rdh_le [] kr lei
                 · refine rdho_eff rfl trivial (e_store ttOk rfl) (rdh_1 2 kr ?_)
                   first | refine rdho_q rfl trivial (q_load_pr ttOk rfl rfl rfl rfl (get_map om) rfl rfl) rfl ?_ | refine rdho_q rfl trivial (q_load ttOk rfl) rfl ?_
                   refine rdh_1 5 kr (rdho_eff rfl trivial (e_store ttOk rfl) (rdh_take 6 rfl kr trivial (QuietW.h (qw_assign rfl)) rfl ?_))
                   exact rdh_le [] kr lei
             · first | refine rdho_q rfl trivial (q_load_pr ttOk rfl rfl rfl rfl (get_map om) rfl rfl) rfl ?_ | refine rdho_q rfl trivial (q_load ttOk rfl) rfl ?_
               refine rdh_1 0 kr ?_
               first | refine rdho_q rfl trivial (q_load_pr ttOk rfl rfl rfl rfl (get_map om) rfl rfl) rfl ?_ | refine rdho_q rfl trivial (q_load ttOk rfl) rfl ?_
               refine rdh_1 3 kr (rdho_eff rfl trivial (e_store ttOk rfl) (rdh_1 4 kr (rdho_eff rfl trivial (e_store ttOk rfl) (rdh_1 5 kr (rdho_eff rfl trivial (e_store ttOk rfl) (rdh_take 6 rfl kr trivial (QuietW.h (qw_assign rfl)) rfl ?_))))))
               exact rdh_le [] kr lei
           · first | refine rdho_q rfl trivial (q_load_pr ttOk rfl rfl rfl rfl (get_map om) rfl rfl) rfl ?_ | refine rdho_q rfl trivial (q_load ttOk rfl) rfl ?_
             refine rdh_2 0 1 kr ?_ ?_
             · first | refine rdho_q rfl trivial (q_load_pr ttOk rfl rfl rfl rfl (get_map om) rfl rfl) rfl ?_ | refine rdho_q rfl trivial (q_load ttOk rfl) rfl ?_
               refine rdh_2 1 3 kr ?_ ?_
               · first | refine rdho_q rfl trivial (q_load_pr ttOk rfl rfl rfl rfl (get_map om) rfl rfl) rfl ?_ | refine rdho_q rfl trivial (q_load ttOk rfl) rfl ?_
                 refine rdh_1 3 kr (rdho_eff rfl trivial (e_store ttOk rfl) (rdh_1 4 kr (rdho_eff rfl trivial (e_store ttOk rfl) (rdh_1 5 kr (rdho_eff rfl trivial (e_store ttOk rfl) (rdh_take 6 rfl kr trivial (QuietW.h (qw_assign rfl)) rfl ?_))))))
                 exact rdh_le [] kr lei
               · refine rdho_eff rfl trivial (e_store ttOk rfl) (rdh_1 1 kr ?_)
                 first | refine rdho_q rfl trivial (q_load_pr ttOk rfl rfl rfl rfl (get_map om) rfl rfl) rfl ?_ | refine rdho_q rfl trivial (q_load ttOk rfl) rfl ?_
                 refine rdh_1 4 kr (rdho_eff rfl trivial (e_store ttOk rfl) (rdh_1 5 kr (rdho_eff rfl trivial (e_store ttOk rfl) (rdh_take 6 rfl kr trivial (QuietW.h (qw_assign rfl)) rfl ?_))))
                 exact rdh_le [] kr lei
             · first | refine rdho_q rfl trivial (q_load_pr ttOk rfl rfl rfl rfl (get_map om) rfl rfl) rfl ?_ | refine rdho_q rfl trivial (q_load ttOk rfl) rfl ?_
               refine rdh_1 0 kr ?_
               first | refine rdho_q rfl trivial (q_load_pr ttOk rfl rfl rfl rfl (get_map om) rfl rfl) rfl ?_ | refine rdho_q rfl trivial (q_load ttOk rfl) rfl ?_
               refine rdh_1 3 kr (rdho_eff rfl trivial (e_store ttOk rfl) (rdh_1 4 kr (rdho_eff rfl trivial (e_store ttOk rfl) (rdh_1 5 kr (rdho_eff rfl trivial (e_store ttOk rfl) (rdh_take 6 rfl kr trivial (QuietW.h (qw_assign rfl)) rfl ?_))))))
               exact rdh_le [] kr lei
         refine et (ev_ret (ret_pureN ttOk rfl rfl ?_))
         first
         | (rw [rec_no ‹_›]; simp [RpLe, L2, RcLe, zeroD, zeroT, noHead]; done)
         | (rw [rec_no (headIn_not ‹_›)]; simp [RpLe, L2, RcLe, zeroD, zeroT, noHead]; done)
         | (obtain rfl : j = 22 := by omega
            rw [rec_yes ‹_›, ← hhd, ← hbk, ← ht0, ← hRR]; simp [RpLe, L2, RcLe]; done)
theorem rowOk_iff {l : List Int} : rowOk l = true ↔ l.length ≤ 48 ∧ ∀ x ∈ l, 0 ≤ x ∧ x ≤ 1000000000 := by
 simp only [rowOk, Bool.and_eq_true, decide_eq_true_eq, List.all_eq_true, numOk_iff]
theorem canSum_iff {l : List Int} : canSum l = true ↔ l.length < 48 ∧ ∀ x ∈ l, 0 ≤ x ∧ x ≤ 1000000000 := by
 simp only [canSum, Bool.and_eq_true, decide_eq_true_eq, rowOk_iff]
 exact ⟨fun h => ⟨h.2, h.1.2⟩, fun h => ⟨⟨by omega, h.2⟩, h.1⟩⟩
theorem ws_ok {l : List Int} (h : canSum l = true) : rowOk (withSumF l) = true := by
 rw [withSum_yes h]
 obtain ⟨h1, h2⟩ := canSum_iff.1 h
 have h3 := sum_rng l
 refine rowOk_iff.2 ⟨by simp; omega, fun x hx => ?_⟩
 rcases List.mem_append.1 hx with hx | hx
 ·exact h2 x hx
 ·rw [List.mem_singleton.1 hx]; omega
theorem uns_ws {l : List Int} (h : canSum l = true) : unsF (withSumF l) = some l := by
 have h0 := ws_ok h
 rw [withSum_yes h] at h0 ⊢
 have e : (l ++ [sumF l]).take ((l ++ [sumF l]).length - 1) = l := by simp
 rw [uns_yes h0 (by simp) (by rw [e]; simp), e]
theorem uns_len {c r : List Int} (h : unsF c = some r) : c.length = r.length + 1 ∧ r = c.take r.length ∧ rowOk c = true := by
 unfold unsF at h
 split at h
 ·rename_i hh
  simp only [Bool.and_eq_true, decide_eq_true_eq] at hh
  cases h
  refine ⟨by rw [List.length_take]; omega, by rw [List.length_take]; congr 1; omega, hh.1⟩
 ·cases h
theorem opOk_rng {k a b c d : Int} (h : opOk k a b c d = true) : (0 ≤ k ∧ k ≤ 1000000000) ∧ (0 ≤ a ∧ a ≤ 1000000000) ∧ (0 ≤ b ∧ b ≤ 1000000000) ∧ (0 ≤ c ∧ c ≤ 1000000000) ∧ (0 ≤ d ∧ d ≤ 1000000000) := by
 unfold opOk at h
 simp only [inB, timeOk, Bool.and_eq_true, Bool.or_eq_true, decide_eq_true_eq] at h
 repeat' split at h
 all_goals first
  | omega
  | (simp only [Bool.and_eq_true, decide_eq_true_eq] at h; omega)
  | simp at h
theorem ent_rng {e : Entry} (h : entryOk e = true) : ∀ x ∈ e.nums, 0 ≤ x ∧ x ≤ 1000000000 := by
 simp only [entryOk, indexOk, timeOk, askerOk, seqOk, inB, Bool.and_eq_true, decide_eq_true_eq] at h
 obtain ⟨h1, h2, h3, h4, h5⟩ := h
 have h6 := opOk_rng h5
 intro x hx
 simp only [Entry.nums, List.mem_cons, List.not_mem_nil, or_false] at hx
 omega
theorem slot_len {e : Entry} (h : entryOk e = true) : (slotRowF e).length = 11 := by
 unfold slotRowF
 rw [h]
 simp [Entry.nums]
theorem slot_sum {e : Entry} (h : entryOk e = true) : canSum (slotRowF e) = true := by
 refine canSum_iff.2 ⟨by rw [slot_len h]; omega, fun x hx => ?_⟩
 unfold slotRowF at hx
 rw [h, if_pos rfl] at hx
 have h1 := entry_ix h
 rcases List.mem_append.1 hx with hx | hx
 ·exact ent_rng h x hx
 ·simp only [List.mem_cons, List.not_mem_nil, or_false] at hx; omega
theorem slot_eq {e : Entry} (h : entryOk e = true) : slotRowF e = [e.index, e.time, e.client, e.seq, e.kind, e.a, e.b, e.c, e.d, e.index, e.index] := by
 unfold slotRowF
 rw [h]
 rfl
theorem slot_back {e : Entry} (h : entryOk e = true) : rowSlotF (slotRowF e) = some e := by
 rw [slot_eq h]
 exact if_pos ⟨rfl, h, rfl, rfl⟩
def entIn (c : List Int) : Option Entry := (unsF c).bind rowSlotF
def headOn (c : List Int) : Option Head := (unsF c).bind rowHeadF
theorem ent_good {e : Entry} (h : entryOk e = true) : entIn (withSumF (slotRowF e)) = some e := by
 unfold entIn
 rw [uns_ws (slot_sum h)]
 exact slot_back h
theorem ent_short {c : List Int} (h : c.length ≤ 11) : entIn c = none := by
 unfold entIn
 cases hu : unsF c with
 | none => rfl
 | some r =>
  have := (uns_len hu).1
  exact rs_no1 om
theorem head_short {c : List Int} (h : c.length ≤ 13) : headOn c = none := by
 unfold headOn
 cases hu : unsF c with
 | none => rfl
 | some r =>
  have := (uns_len hu).1
  exact rh_no1 om
def badS (i : Int) (c : List Int) : Prop := ∀ e, entIn c = some e → e.index ≠ i
def oldS (i : Int) (c : List Int) : Prop := c.length ≤ 1 ∨ ∃ e, entryOk e = true ∧ e.index ≠ i ∧ c = withSumF (slotRowF e)
theorem oldS.bad {i : Int} {c : List Int} (h : oldS i c) : badS i c := by
 intro e he
 rcases h with h | ⟨e', h1, h2, rfl⟩
 ·rw [ent_short om] at he; cases he
 ·rw [ent_good h1] at he; cases he; exact h2
theorem ws_slot_eq {e : Entry} (h : entryOk e = true) : withSumF (slotRowF e) = [e.index, e.time, e.client, e.seq, e.kind, e.a, e.b, e.c, e.d, e.index, e.index, sumF (slotRowF e)] := by
 rw [withSum_yes (slot_sum h)]
 conv => lhs; arg 1; rw [slot_eq h]
 rfl
theorem torn_bad {e : Entry} {old : List Int} (h : entryOk e = true) (ho : oldS e.index old) : badS e.index (tornF (withSumF (slotRowF e)) old) := by
 rcases ho with ho | ⟨e', h1, h2, rfl⟩
 ·intro e2 he
  rw [ent_short ?_] at he
  ·cases he
  ·rw [ws_slot_eq h]
   simp only [tornF, List.length_append, List.length_take, List.length_drop, List.length_cons, List.length_nil]
   omega
 ·intro e2 he
  rw [ws_slot_eq h, ws_slot_eq h1] at he
  unfold entIn at he
  cases hu : unsF (tornF [e.index, e.time, e.client, e.seq, e.kind, e.a, e.b, e.c, e.d, e.index, e.index, sumF (slotRowF e)] [e'.index, e'.time, e'.client, e'.seq, e'.kind, e'.a, e'.b, e'.c, e'.d, e'.index, e'.index, sumF (slotRowF e')]) with
  | none => rw [hu] at he; cases he
  | some r =>
   rw [hu] at he
   obtain ⟨k1, k2, _⟩ := uns_len hu
   have k3 : r.length = 11 := by
    simp [tornF] at k1
    omega
   rw [k3] at k2
   have he : rowSlotF r = some e2 := he
   rw [k2] at he
   have ht : List.take 11 (tornF [e.index, e.time, e.client, e.seq, e.kind, e.a, e.b, e.c, e.d, e.index, e.index, sumF (slotRowF e)] [e'.index, e'.time, e'.client, e'.seq, e'.kind, e'.a, e'.b, e'.c, e'.d, e'.index, e'.index, sumF (slotRowF e')]) = [e.index, e.time, e.client, e.seq, e.kind, e.a, e'.b, e'.c, e'.d, e'.index, e'.index] := by simp [tornF]
   rw [ht, rs11_9 h2] at he
   cases he
theorem find_noMark {l : List Mark} (h : SOk l) (c : Int) : (l.find? fun x => decide (x.client = c)) = none ∧ findM l c = noMark ∨ ∃ m ∈ l, m.client = c ∧ markOk m = true ∧ (l.find? fun x => decide (x.client = c)) = some m ∧ findM l c = m := by
 cases hf : l.find? fun x => decide (x.client = c) with
 | none => exact .inl ⟨rfl, by unfold findM; rw [hf]; rfl⟩
 | some m =>
  have h1 := List.find?_some hf
  have h2 := List.mem_of_find?_eq_some hf
  exact .inr ⟨m, h2, by simpa using h1, h.ok m h2, rfl, by unfold findM; rw [hf]; rfl⟩
theorem seenRow_at (l : List Mark) : ∀ k i, i < k → (seenRow l k).getD (2 * i) 0 = (findM l (2 + i)).seq ∧ (seenRow l k).getD (2 * i + 1) 0 = (findM l (2 + i)).index
 | 0, i, h => by omega
 | k + 1, i, h => by
  have hl := seenRow_len l k
  simp only [seenRow]
  rcases Nat.lt_or_ge i k with h1 | h1
  ·have ih := seenRow_at l k i h1
   simp only [List.getD_eq_getElem?_getD] at ih ⊢
   rw [List.getElem?_append_left om, List.getElem?_append_left om]
   exact ih
  ·obtain rfl : i = k := by omega
   simp only [List.getD_eq_getElem?_getD]
   rw [List.getElem?_append_right om, List.getElem?_append_right om, hl]
   simp
theorem seenUp_eq {h : Head} (hs : SOk h.seen) (l : List Int) (hl : ∀ i, i < 4 → l.getD (3 + 2 * i) 0 = (findM h.seen (2 + i)).seq ∧ l.getD (4 + 2 * i) 0 = (findM h.seen (2 + i)).index) : ∀ k, k ≤ 4 → seenUp l k = outF h.seen k
 | 0, _ => (outF_zero hs).symm
 | k + 1, hk => by
  rw [seenUp, outF_next hs, seenUp_eq hs l hl k om]
  congr 1
  obtain ⟨h1, h2⟩ := hl k om
  unfold slotM
  rw [h1, h2]
  rcases find_noMark hs (2 + k) with ⟨e1, e2⟩ | ⟨m, _, hc, hm, e1, e2⟩
  ·rw [e1, e2]; rfl
  ·rw [e1, e2]
   simp only [markOk, seqOk, inB, Bool.and_eq_true, decide_eq_true_eq] at hm
   rw [if_pos (.inl om), ← hc]
   rfl
theorem headRow_eq {h : Head} (hh : headOk h = true) : headRowF h = [h.num, h.base, h.time] ++ seenRow h.seen 4 ++ [h.num, h.num] := by
 unfold headRowF
 rw [hh]
 rfl
theorem headRow_13 {h : Head} (hh : headOk h = true) : (headRowF h).length = 13 := by
 rw [headRow_eq hh]
 simp [seenRow_len]
theorem headRow_getD {h : Head} (hh : headOk h = true) : (headRowF h).getD 0 0 = h.num ∧ (headRowF h).getD 1 0 = h.base ∧ (headRowF h).getD 2 0 = h.time ∧ (headRowF h).getD 11 0 = h.num ∧ (headRowF h).getD 12 0 = h.num ∧ ∀ i, i < 4 → (headRowF h).getD (3 + 2 * i) 0 = (findM h.seen (2 + i)).seq ∧ (headRowF h).getD (4 + 2 * i) 0 = (findM h.seen (2 + i)).index := by
 have hl := seenRow_len h.seen 4
 rw [headRow_eq hh]
 refine ⟨rfl, rfl, rfl, ?_, ?_, fun i hi => ?_⟩
 ·simp only [List.getD_eq_getElem?_getD]
  rw [List.getElem?_append_right (by simp; omega)]
  simp [hl]
 ·simp only [List.getD_eq_getElem?_getD]
  rw [List.getElem?_append_right (by simp; omega)]
  simp [hl]
 ·have ih := seenRow_at h.seen 4 i hi
  simp only [List.getD_eq_getElem?_getD] at ih ⊢
  refine ⟨?_, ?_⟩
  ·rw [List.getElem?_append_left (by simp; omega), List.getElem?_append_right (by simp)]
   simp only [List.length_cons, List.length_nil]
   rw [show 3 + 2 * i - (0 + 1 + 1 + 1) = 2 * i by omega]
   exact ih.1
  ·rw [List.getElem?_append_left (by simp; omega), List.getElem?_append_right (by simp; omega)]
   simp only [List.length_cons, List.length_nil]
   rw [show 4 + 2 * i - (0 + 1 + 1 + 1) = 2 * i + 1 by omega]
   exact ih.2
theorem head_back {h : Head} (hh : headOk h = true) : rowHeadF (headRowF h) = some h := by
 have hs := sok_of (head_bd hh).2.2.2.2
 obtain ⟨h0, h1, h2, h3, h4, h5⟩ := headRow_getD hh
 have e : headOf (headRowF h) = h := by
  unfold headOf
  rw [h0, h1, h2, seenUp_eq hs _ h5 4 (Nat.le_refl _), outF_all hs]
 unfold rowHeadF
 rw [e, h3, h4, h0]
 exact if_pos ⟨headRow_13 hh, hh, rfl, rfl⟩
theorem seenRow_rng {l : List Mark} (h : SOk l) : ∀ k, ∀ x ∈ seenRow l k, 0 ≤ x ∧ x ≤ 1000000000
 | 0, x, hx => by simp [seenRow] at hx
 | k + 1, x, hx => by
  simp only [seenRow] at hx
  rcases List.mem_append.1 hx with hx | hx
  ·exact seenRow_rng h k x hx
  ·rcases find_noMark h (2 + k) with ⟨_, e2⟩ | ⟨m, _, _, hm, _, e2⟩
   ·rw [e2] at hx
    simp [noMark] at hx
    omega
   ·rw [e2] at hx
    simp only [markOk, seqOk, indexOk, inB, Bool.and_eq_true, decide_eq_true_eq] at hm
    simp only [List.mem_cons, List.not_mem_nil, or_false] at hx
    omega
theorem head_nums {h : Head} (hh : headOk h = true) : (0 ≤ h.num ∧ h.num ≤ h.base) ∧ (0 ≤ h.base ∧ h.base ≤ 2000) ∧ (0 ≤ h.time ∧ h.time ≤ 1000000) := by
 simp only [headOk, timeOk, inB, Bool.and_eq_true, decide_eq_true_eq] at hh
 omega
theorem head_sum {h : Head} (hh : headOk h = true) : canSum (headRowF h) = true := by
 refine canSum_iff.2 ⟨by rw [headRow_13 hh]; omega, fun x hx => ?_⟩
 have h1 := head_nums hh
 have hs := sok_of (head_bd hh).2.2.2.2
 rw [headRow_eq hh] at hx
 rcases List.mem_append.1 hx with hx | hx
 ·rcases List.mem_append.1 hx with hx | hx
  ·simp only [List.mem_cons, List.not_mem_nil, or_false] at hx; omega
  ·exact seenRow_rng hs 4 x hx
 ·simp only [List.mem_cons, List.not_mem_nil, or_false] at hx; omega
theorem head_good {h : Head} (hh : headOk h = true) : headOn (withSumF (headRowF h)) = some h := by
 unfold headOn
 rw [uns_ws (head_sum hh)]
 exact head_back hh
def lowH (k : Int) (c : List Int) : Prop := c.length ≤ 1 ∨ ∃ h, headOk h = true ∧ h.num < k ∧ c = withSumF (headRowF h)
def badH (k : Int) (c : List Int) : Prop := ∀ h, headOn c = some h → h.num < k
theorem lowH.bad {k : Int} {c : List Int} (h : lowH k c) : badH k c := by
 intro h' he
 rcases h with h | ⟨h2, h3, h4, rfl⟩
 ·rw [head_short om] at he; cases he
 ·rw [head_good h3] at he; cases he; exact h4
theorem torn_getD {l : List Int} {old : List Int} (k : Nat) : (tornF l old).getD k 0 = if k < l.length / 2 then l.getD k 0 else old.getD k 0 := by
 simp only [tornF, List.getD_eq_getElem?_getD]
 split
 ·rename_i h
  rw [List.getElem?_append_left (by rw [List.length_take]; omega), List.getElem?_take, if_pos h]
 ·rename_i h
  rw [List.getElem?_append_right (by rw [List.length_take]; omega), List.length_take, List.getElem?_drop]
  congr 2
  omega
theorem getD_takeI {l : List Int} {m k : Nat} (h : k < m) : (l.take m).getD k 0 = l.getD k 0 := getD_take h
theorem ws_getD {l : List Int} (h : canSum l = true) {k : Nat} (hk : k < l.length) : (withSumF l).getD k 0 = l.getD k 0 := by
 rw [withSum_yes h]
 simp only [List.getD_eq_getElem?_getD]
 rw [List.getElem?_append_left hk]
theorem ws_len {l : List Int} (h : canSum l = true) : (withSumF l).length = l.length + 1 := by
 rw [withSum_yes h]; simp
theorem torn_headBad {h : Head} {old : List Int} {k : Int} (hh : headOk h = true) (ho : lowH h.num old) : headOn (tornF (withSumF (headRowF h)) old) = none := by
 rcases ho with ho | ⟨h', h1, h2, rfl⟩
 ·refine head_short ?_
  have := ws_len (head_sum hh)
  have := headRow_13 hh
  simp only [tornF, List.length_append, List.length_take, List.length_drop]
  omega
 ·unfold headOn
  cases hu : unsF (tornF (withSumF (headRowF h)) (withSumF (headRowF h'))) with
  | none => rfl
  | some r =>
   obtain ⟨k1, k2, _⟩ := uns_len hu
   have w1 := ws_len (head_sum hh)
   have w2 := ws_len (head_sum h1)
   have w3 := headRow_13 hh
   have w4 := headRow_13 h1
   have k3 : r.length = 13 := by
    simp only [tornF, List.length_append, List.length_take, List.length_drop] at k1
    omega
   show rowHeadF r = none
   refine if_neg fun hc => ?_
   have e0 : r.getD 0 0 = h.num := by
    rw [k2, k3, getD_takeI om, torn_getD, if_pos om, ws_getD (head_sum hh) om]
    exact (headRow_getD hh).1
   have e11 : r.getD 11 0 = h'.num := by
    rw [k2, k3, getD_takeI om, torn_getD, if_neg om, ws_getD (head_sum h1) om]
    exact (headRow_getD h1).2.2.2.1
   rw [e0, e11] at hc
   omega
def cell (d : Disk) (s : Int) : List Int := d.kept.getD s.toNat []
theorem read_cell {d : Disk} {s : Int} (hd : diskOk d = true) (hw : d.wait = []) (h : 0 ≤ s ∧ s < d.kept.length) : readF d s = some (cell d s) := by
 unfold readF
 rw [hd, hasAt_iff.2 h, hw]
 rfl
theorem find_right {α : Type} {f : List Int → Option α} (a b : Option (List Int)) : (rightOf a b).findSome? f = (a.bind f).or (b.bind f) := by
 cases a with
 | none => cases b <;> simp [rightOf]
 | some x =>
  cases b with
  | none => simp [rightOf]
  | some y =>
   simp only [rightOf, Option.toList_some]
   by_cases e : x = y
   ·subst e
    have : eqL x x = true := by simp [eqL]
    rw [if_pos this]
    cases hf : f x <;> simp [hf]
   ·have : eqL x y = false := by simp [eqL, e]
    rw [this]
    cases hf : f x <;> simp [hf]
structure Rest (t : Two) : Prop where
 ok : keptOk t = true
 wa : t.a.wait = []
 wb : t.b.wait = []
theorem Rest.parts {t : Two} (h : Rest t) : twoOk t = true ∧ diskOk t.a = true ∧ diskOk t.b = true ∧ t.a.kept.length = 22 ∧ t.b.kept.length = 22 := by
 obtain ⟨h1, h2⟩ := keptOk_iff.1 h.ok
 obtain ⟨h3, h4, h5⟩ := twoOk_iff.1 h1
 exact ⟨h1, h3, h4, h2, by omega⟩
theorem Rest.right {t : Two} (h : Rest t) {s : Int} (hs : 0 ≤ s ∧ s < 22) : rightF t s = rightOf (unsF (cell t.a s)) (unsF (cell t.b s)) := by
 obtain ⟨h1, h2, h3, h4, h5⟩ := h.parts
 rw [right_yes h1 (hasAt_iff.2 om), read_cell h2 h.wa om, read_cell h3 h.wb om]
 rfl
def okE (b : Book) (s : List Mark) (e : Entry) : Option Entry := if e.index = lastB b + 1 ∧ fitsF b e = true ∧ freshF s e = true then some e else none
theorem take_entIn {b : Book} {s : List Mark} (c : List Int) : (unsF c).bind (takeE b s) = (entIn c).bind (okE b s) := by
 unfold entIn
 cases unsF c with
 | none => rfl
 | some r =>
  show takeE b s r = (rowSlotF r).bind (okE b s)
  unfold takeE
  cases rowSlotF r <;> rfl
theorem slot_rng (x : Int) : 2 ≤ slotF x ∧ slotF x < 22 := by unfold slotF; omega
theorem Rest.next {t : Two} (h : Rest t) {b : Book} {s : List Mark} : nextE t b s = ((entIn (cell t.a (slotF (lastB b + 1)))).bind (okE b s)).or ((entIn (cell t.b (slotF (lastB b + 1)))).bind (okE b s)) := by
 have hs := slot_rng (lastB b + 1)
 unfold nextE
 rw [h.right om, find_right, take_entIn, take_entIn]
theorem okE_yes {b : Book} {s : List Mark} {e : Entry} (h1 : fitsF b e = true) (h2 : freshF s e = true) : okE b s e = some e := if_pos ⟨(fits_iff.1 h1).2.1, h1, h2⟩
theorem bind_bad {b : Book} {s : List Mark} {c : List Int} (h : badS (lastB b + 1) c) : (entIn c).bind (okE b s) = none := by
 cases he : entIn c with
 | none => rfl
 | some e => exact if_neg fun hh => h e he hh.1
theorem Rest.next_none {t : Two} (h : Rest t) {b : Book} {s : List Mark} (ha : badS (lastB b + 1) (cell t.a (slotF (lastB b + 1)))) (hb : badS (lastB b + 1) (cell t.b (slotF (lastB b + 1)))) : nextE t b s = none := by
 rw [h.next, bind_bad ha, bind_bad hb]; rfl
def eorb (e : Entry) (c : List Int) : Prop := entIn c = some e ∨ badS e.index c
theorem Rest.next_case {t : Two} (h : Rest t) {b : Book} {s : List Mark} {e : Entry} (h1 : fitsF b e = true) (h2 : freshF s e = true) (ha : eorb e (cell t.a (slotF e.index))) (hb : eorb e (cell t.b (slotF e.index))) :
  nextE t b s = some e ∨ (nextE t b s = none ∧ entIn (cell t.a (slotF e.index)) ≠ some e ∧ entIn (cell t.b (slotF e.index)) ≠ some e) := by
 have hi := (fits_iff.1 h1).2.1
 have ho := okE_yes h1 h2
 rw [h.next, ← hi]
 rcases ha with ha | ha
 ·left; rw [ha, Option.bind_some, ho]; rfl
 ·rw [bind_bad (by rw [← hi]; exact ha)]
  rcases hb with hb | hb
  ·left; rw [hb, Option.bind_some, ho]; rfl
  ·right
   rw [bind_bad (by rw [← hi]; exact hb)]
   exact ⟨rfl, fun e1 => ha e e1 rfl, fun e1 => hb e e1 rfl⟩
theorem book_time0 {b : Book} (hb : bookOk b = true) (hk : 0 < b.entries.length) : b.entries[0].time ≥ b.time := by
 obtain ⟨x, y, es⟩ := b
 cases es with
 | nil => simp at hk
 | cons a l =>
  simp only [bookOk, Bool.and_eq_true, decide_eq_true_eq] at hb
  exact hb.2.2.2.2.2.2
theorem book_fits {b : Book} (hb : bookOk b = true) {k : Nat} (hk : k < b.entries.length) : fitsF ⟨b.base, b.time, b.entries.take k⟩ b.entries[k] = true := by
 have hbd := book_bd hb
 have h9 := hb
 simp only [bookOk, Bool.and_eq_true, decide_eq_true_eq] at h9
 have hst := (entriesOk_iff.1 h9.2.2.2.2.1).2 k hk
 rw [entStep_at hk] at hst
 simp only [Bool.and_eq_true] at hst
 have hix := ent_ix hb k hk
 have hlen : (b.entries.take k).length = k := by rw [List.length_take]; omega
 refine fits_iff.2 ⟨hst.1, by show b.entries[k].index = b.base + ((b.entries.take k).length : Int) + 1; rw [hlen]; omega, ?_, by rw [hlen]; omega⟩
 cases k with
 | zero =>
  have e0 : timeB ⟨b.base, b.time, b.entries.take 0⟩ = b.time := timeB_nil hlen
  rw [e0]
  exact book_time0 hb hk
 | succ j =>
  rw [timeB_last (m := j) hlen]
  have h7 := hst.2
  rw [entOver_at hk om] at h7
  simp only [Bool.and_eq_true, decide_eq_true_eq] at h7
  simpa using h7.2
theorem over_fresh {l c : List Mark} {es : List Entry} (h : overL l es = some c) {k : Nat} (hk : k < es.length) : ∃ c', overL l (es.take k) = some c' ∧ freshF c' es[k] = true := by
 obtain ⟨c', h1⟩ := over_prefix h k
 refine ⟨c', h1, ?_⟩
 cases hf : freshF c' es[k] with
 | true => rfl
 | false => rw [over_no hk h1 hf] at h; cases h
theorem appF_take {x y : Int} {es : List Entry} {k : Nat} (hk : k < es.length) : appF ⟨x, y, es.take k⟩ es[k] = ⟨x, y, es.take (k + 1)⟩ := by
 unfold appF
 rw [List.take_succ_eq_append_getElem hk]
theorem book_run {t : Two} {h : Head} {es : List Entry} {c : List Mark} {m0 : Nat} (hr : Rest t) (hh : headOk h = true) (hb : bookOk ⟨h.base, h.time, es⟩ = true) (ho : overL h.seen es = some c) (hm0 : m0 ≤ es.length)
  (hc : ∀ j (hj : j < es.length), eorb es[j] (cell t.a (slotF es[j].index)) ∧ eorb es[j] (cell t.b (slotF es[j].index)))
  (hg : ∀ j (hj : j < es.length), j < m0 → entIn (cell t.a (slotF es[j].index)) = some es[j] ∨ entIn (cell t.b (slotF es[j].index)) = some es[j])
  (he : es.length < 20 → badS (h.base + es.length + 1) (cell t.a (slotF (h.base + es.length + 1))) ∧ badS (h.base + es.length + 1) (cell t.b (slotF (h.base + es.length + 1)))) :
  ∃ m, m0 ≤ m ∧ m ≤ es.length ∧ bookInF t h = ⟨h.base, h.time, es.take m⟩ := by
 have hbd := book_bd hb
 have key : ∀ k, k ≤ 20 → ∃ m c', m ≤ es.length ∧ bookUp t h k = (⟨h.base, h.time, es.take m⟩, c') ∧ overL h.seen (es.take m) = some c' ∧ (m = k ∨ (m0 ≤ m ∧ nextE t ⟨h.base, h.time, es.take m⟩ c' = none)) := by
  intro k
  induction k with
  | zero => exact fun _ => ⟨0, h.seen, by omega, by simp [bookUp], by simp [overL], .inl rfl⟩
  | succ k ih =>
   intro hk
   obtain ⟨m, c', h1, h2, h3, h4⟩ := ih om
   rcases h4 with rfl | ⟨h5, h6⟩
   ·rcases Nat.lt_or_ge m es.length with h7 | h7
    ·have f1 : fitsF ⟨h.base, h.time, es.take m⟩ es[m] = true := book_fits hb h7
     obtain ⟨c2, f2, f3⟩ := over_fresh ho h7
     rw [h3] at f2; cases f2
     obtain ⟨g1, g2⟩ := hc m h7
     rcases hr.next_case f1 f3 g1 g2 with h8 | ⟨h8, h9, h10⟩
     ·refine ⟨m + 1, insF c' (eMark es[m]), by omega, ?_, ?_, .inl rfl⟩
      ·simp only [bookUp, h2, h8]
       rw [appF_take h7]
      ·exact over_yes h7 h3 f3
     ·refine ⟨m, c', h1, by simp only [bookUp, h2, h8], h3, .inr ⟨?_, h8⟩⟩
      rcases Nat.lt_or_ge m m0 with h11 | h11
      ·rcases hg m h7 h11 with h12 | h12
       ·exact absurd h12 h9
       ·exact absurd h12 h10
      ·exact h11
    ·obtain rfl : m = es.length := by omega
     have hlen : lastB ⟨h.base, h.time, es.take es.length⟩ + 1 = h.base + es.length + 1 := by unfold lastB; simp
     obtain ⟨e1, e2⟩ := he om
     have h8 : nextE t ⟨h.base, h.time, es.take es.length⟩ c' = none := hr.next_none (by rw [hlen]; exact e1) (by rw [hlen]; exact e2)
     exact ⟨es.length, c', Nat.le_refl _, by simp only [bookUp, h2, h8], h3, .inr ⟨hm0, h8⟩⟩
   ·exact ⟨m, c', h1, by simp only [bookUp, h2, h6], h3, .inr ⟨h5, h6⟩⟩
 obtain ⟨m, c', h1, h2, h3, h4⟩ := key 20 (Nat.le_refl _)
 have hlen : es.length ≤ 20 := hbd.2.2.1
 refine ⟨m, ?_, h1, ?_⟩
 ·rcases h4 with rfl | ⟨h5, _⟩
  ·omega
  ·exact h5
 ·unfold bookInF
  rw [hr.ok, hh, h2]
  rfl
def hst (k : Int) (acc : Head × Bool) (o : Option Head) : Head × Bool := match o with
 | none => acc
 | some h => if h.num % 2 = k ∧ (acc.2 = false ∨ h.num > acc.1.num) then (h, true) else acc
theorem headStep_eq (k : Int) (acc : Head × Bool) (r : List Int) : headStep k acc r = hst k acc (rowHeadF r) := by
 unfold headStep hst
 cases rowHeadF r with
 | none => simp
 | some h => simp
theorem hst_yes {k : Int} {acc : Head × Bool} {h : Head} (h1 : h.num % 2 = k ∧ (acc.2 = false ∨ h.num > acc.1.num)) : hst k acc (some h) = (h, true) := if_pos h1
theorem hst_no {k : Int} {acc : Head × Bool} {h : Head} (h1 : ¬ (h.num % 2 = k ∧ (acc.2 = false ∨ h.num > acc.1.num))) : hst k acc (some h) = acc := if_neg h1
theorem hst_twice (k : Int) (acc : Head × Bool) (o : Option Head) : hst k (hst k acc o) o = hst k acc o := by
 cases o with
 | none => rfl
 | some h =>
  by_cases h1 : h.num % 2 = k ∧ (acc.2 = false ∨ h.num > acc.1.num)
  ·rw [hst_yes h1]
   exact hst_no (by simp)
  ·rw [hst_no h1, hst_no h1]
theorem fold_right (k : Int) (acc : Head × Bool) (a b : Option (List Int)) : (rightOf a b).foldl (headStep k) acc = hst k (hst k acc (a.bind rowHeadF)) (b.bind rowHeadF) := by
 cases a with
 | none =>
  cases b with
  | none => rfl
  | some y =>
   show headStep k acc y = _
   rw [headStep_eq]; rfl
 | some x =>
  cases b with
  | none =>
   show headStep k acc x = _
   rw [headStep_eq]; rfl
  | some y =>
   simp only [rightOf, Option.toList_some]
   by_cases e : x = y
   ·subst e
    have : eqL x x = true := by simp [eqL]
    rw [if_pos this]
    show headStep k acc x = _
    rw [headStep_eq]
    exact (hst_twice k acc (rowHeadF x)).symm
   ·have : eqL x y = false := by simp [eqL, e]
    rw [this]
    show headStep k (headStep k acc x) y = _
    rw [headStep_eq, headStep_eq]; rfl
theorem Rest.head {t : Two} (h : Rest t) : headIn t = hst 1 (hst 1 (hst 0 (hst 0 (noHead, false) (headOn (cell t.a 0))) (headOn (cell t.b 0))) (headOn (cell t.a 1))) (headOn (cell t.b 1)) := by
 unfold headIn
 rw [h.ok]
 show (rightF t ((1 : Nat) : Int)).foldl (headStep ((1 : Nat) : Int)) ((rightF t ((0 : Nat) : Int)).foldl (headStep ((0 : Nat) : Int)) (noHead, false)) = _
 rw [h.right (s := ((1 : Nat) : Int)) om, h.right (s := ((0 : Nat) : Int)) om, fold_right, fold_right]
 rfl
def isH (h : Head) (c : List Int) : Prop := headOn c = some h ∨ headOn c = none
def othH (h nx : Head) (c : List Int) : Prop := headOn c = some nx ∨ badH h.num c
theorem hst_low {k : Int} {acc : Head × Bool} {h nx : Head} {c : List Int} (ho : othH h nx c) (hn : nx.num % 2 = k) (hnx : h.num < nx.num) (ha : acc.2 = true → acc.1 = nx ∨ acc.1.num < h.num) :
  (hst k acc (headOn c)).2 = true → (hst k acc (headOn c)).1 = nx ∨ (hst k acc (headOn c)).1.num < h.num := by
 intro hx
 rcases ho with ho | ho
 ·rw [ho] at hx ⊢
  simp only [hst] at hx ⊢
  split at hx
  ·rename_i h1; rw [if_pos h1]; exact .inl rfl
  ·rename_i h1; rw [if_neg h1]; exact ha hx
 ·cases hc : headOn c with
  | none => rw [hc] at hx; exact ha hx
  | some h' =>
   have h2 := ho h' hc
   rw [hc] at hx
   simp only [hst] at hx ⊢
   split at hx
   ·rename_i h1; rw [if_pos h1]; exact .inr h2
   ·rename_i h1; rw [if_neg h1]; exact ha hx
theorem head_run {t : Two} {h nx : Head} {p q : Int} (hr : Rest t) (hp : p = h.num % 2) (hq : q = nx.num % 2) (hnx : nx.num = h.num + 1) (h0 : 0 ≤ h.num)
  (ha : isH h (cell t.a p)) (hb : isH h (cell t.b p)) (hs : headOn (cell t.a p) = some h ∨ headOn (cell t.b p) = some h) (ka : othH h nx (cell t.a q)) (kb : othH h nx (cell t.b q)) : headIn t = (h, true) ∨ headIn t = (nx, true) := by
 rw [hr.head]
 rcases (by omega : p = 0 ∧ q = 1 ∨ p = 1 ∧ q = 0) with ⟨rfl, rfl⟩ | ⟨rfl, rfl⟩
 ·have e1 : hst 0 (hst 0 (noHead, false) (headOn (cell t.a 0))) (headOn (cell t.b 0)) = (h, true) := by
   have hh : hst 0 (noHead, false) (some h) = (h, true) := by simp only [hst]; rw [if_pos ⟨hp.symm, by simp⟩]
   rcases ha with ha | ha
   ·rw [ha, hh]
    rcases hb with hb | hb
    ·rw [hb, ← hh, hst_twice]
    ·rw [hb]; rfl
   ·rw [ha]
    rcases hs with hs | hs
    ·rw [ha] at hs; cases hs
    ·rw [hs]; exact hh
  rw [e1]
  have step : ∀ acc : Head × Bool, (acc = (h, true) ∨ acc = (nx, true)) → ∀ c, othH h nx c → (hst 1 acc (headOn c) = (h, true) ∨ hst 1 acc (headOn c) = (nx, true)) := by
   intro acc hacc c hc
   cases ho : headOn c with
   | none => exact hacc
   | some h' =>
    simp only [hst]
    split
    ·rename_i h1
     rcases hc with hc | hc
     ·rw [hc] at ho; cases ho; exact .inr rfl
     ·have := hc h' ho
      rcases hacc with rfl | rfl
      ·simp only [Bool.true_eq_false, false_or] at h1; omega
      ·simp only [Bool.true_eq_false, false_or] at h1; omega
    ·exact hacc
  exact step _ (step _ (.inl rfl) _ ka) _ kb
 ·have l0 := hst_low (k := 0) (acc := (noHead, false)) ka hq.symm om (by simp)
  have l1 := hst_low (k := 0) kb hq.symm om l0
  generalize hst 0 (hst 0 (noHead, false) (headOn (cell t.a 0))) (headOn (cell t.b 0)) = acc at l1
  have hh : hst 1 acc (some h) = (h, true) ∨ (hst 1 acc (some h) = acc ∧ acc = (nx, true)) := by
   simp only [hst]
   split
   ·exact .inl rfl
   ·rename_i h1
    right
    refine ⟨rfl, ?_⟩
    cases hb2 : acc.2 with
    | false => exact absurd ⟨hp.symm, .inl hb2⟩ h1
    | true =>
     rcases l1 hb2 with h3 | h3
     ·rw [← h3, ← hb2]
     ·exact absurd ⟨hp.symm, .inr h3⟩ h1
  have fin : hst 1 acc (some h) = (h, true) ∨ hst 1 acc (some h) = (nx, true) := by
   rcases hh with hh | ⟨hh, e⟩
   ·exact .inl hh
   ·exact .inr (hh.trans e)
  rcases ha with ha | ha
  ·rw [ha]
   rcases hb with hb | hb
   ·rw [hb, hst_twice]; exact fin
   ·rw [hb]; exact fin
  ·rw [ha]
   rcases hs with hs | hs
   ·rw [ha] at hs; cases hs
   ·rw [hs]; exact fin
end Go.Proofs.YtahkjonokeifmaaGreat
