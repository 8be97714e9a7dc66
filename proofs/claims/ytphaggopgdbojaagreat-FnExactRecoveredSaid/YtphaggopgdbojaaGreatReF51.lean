/- Walks of functions of the program, printed by a program of the prover. -/
import Derived.Test.YtphaggopgdbojaaGreatReF50
namespace Go.Proofs.YtphaggopgdbojaaGreat
open Go.ChangeShapes Go.WideShapes Go.ChangeAt Go.RowKit
set_option linter.unusedVariables false
set_option linter.unusedSimpArgs false
set_option maxHeartbeats 1000000
set_option maxRecDepth 100000
attribute [local irreducible] EvL Ev EvE Quiet Eff Pure RDk RDb RDo
def setE (R : List (List Int)) (e : Entry) : List (List Int) := R.set (slotF e.index).toNat (slotRowF e)
def recRow0 (h : Head) : List (List Int) := (List.replicate 22 ([] : List Int)).set (h.num % 2).toNat (headRowF h)
def recRows (h : Head) (es : List Entry) : List (List Int) := es.foldl setE (recRow0 h)
theorem recRows_snoc (h : Head) (es : List Entry) (e : Entry) : recRows h (es ++ [e]) = setE (recRows h es) e := by simp [recRows, List.foldl_append]
theorem recRows_next {h : Head} {es : List Entry} {k : Nat} (hk : k < es.length) : setE (recRows h (es.take k)) es[k] = recRows h (es.take (k + 1)) := by
  rw [List.take_succ_eq_append_getElem hk, recRows_snoc]
theorem recRows_len (h : Head) : ∀ es, (recRows h es).length = 22 := by
  have key : ∀ (es : List Entry) (R : List (List Int)), R.length = 22 → (es.foldl setE R).length = 22 := by
    intro es
    induction es with
    | nil => intro R h; exact h
    | cons e es ih => intro R h; exact ih _ (by simp [setE, h])
  exact fun es => key es _ (by simp [recRow0])
def mendUp (R : List (List Int)) (t : Two) : Nat → Two
  | 0 => t
  | k + 1 => mendedF (mendUp R t k) k (R.getD k [])
def recF (t : Two) : Two × Head × Book × Bool := if (headIn t).2 then (mendUp (recRows (headIn t).1 (bookInF t (headIn t).1).entries) (bothSyncF t) 22, (headIn t).1, bookInF t (headIn t).1, true) else (zeroT, noHead, ⟨0, 0, []⟩, false)
theorem rec_no {t : Two} (h : (headIn t).2 = false) : recF t = (zeroT, noHead, ⟨0, 0, []⟩, false) := by simp [recF, h]
theorem rec_yes {t : Two} (h : (headIn t).2 = true) : recF t = (mendUp (recRows (headIn t).1 (bookInF t (headIn t).1).entries) (bothSyncF t) 22, (headIn t).1, bookInF t (headIn t).1, true) := by simp [recF, h]
theorem headIn_kept {t : Two} (h : (headIn t).2 = true) : keptOk t = true := by
  unfold headIn at h
  split at h
  · assumption
  · cases h
theorem rowHead_ok {l : List Int} {h : Head} (h1 : rowHeadF l = some h) : headOk h = true := by
  unfold rowHeadF at h1
  split at h1
  · rename_i hh; cases h1; exact hh.2.1
  · cases h1
theorem headFold_ok (k : Int) : ∀ (L : List (List Int)) (a : Head × Bool), (a.2 = true → headOk a.1 = true) → (L.foldl (headStep k) a).2 = true → headOk (L.foldl (headStep k) a).1 = true
  | [], a, h => h
  | r :: L, a, h => headFold_ok k L _ (by
    unfold headStep
    split
    · rename_i hh
      intro _
      obtain ⟨h9, he⟩ := Option.isSome_iff_exists.1 hh.1
      rw [he]
      exact rowHead_ok he
    · exact h)
theorem headUp_ok {t : Two} : ∀ k, (headUp t k).2 = true → headOk (headUp t k).1 = true
  | 0 => by intro h; cases h
  | k + 1 => headFold_ok k _ _ (headUp_ok k)
theorem headIn_ok {t : Two} (h : (headIn t).2 = true) : headOk (headIn t).1 = true := by
  have hk := headIn_kept h
  have e : headIn t = headUp t 2 := by simp [headIn, hk]
  rw [e] at h ⊢
  exact headUp_ok 2 h
theorem mended_ok {t : Two} {x : Int} {row : List Int} (h : twoOk t = true) : twoOk (mendedF t x row) = true := by
  unfold mendedF
  split
  · exact bsync_ok (both_ok h)
  · exact both_ok h
theorem mendUp_ok {R : List (List Int)} {t : Two} (h : twoOk t = true) : ∀ k, twoOk (mendUp R t k) = true
  | 0 => h
  | k + 1 => mended_ok (mendUp_ok h k)
theorem rec_two {t : Two} : twoOk (recF t).1 = true ∨ (recF t).1 = zeroT := by
  cases h : (headIn t).2
  · rw [rec_no h]; exact .inr rfl
  · have hm := mendUp_ok (R := recRows (headIn t).1 (bookInF t (headIn t).1).entries) (bsync_ok (keptOk_iff.1 (headIn_kept h)).1) 22
    rw [rec_yes h]
    generalize mendUp (recRows (headIn t).1 (bookInF t (headIn t).1).entries) (bothSyncF t) 22 = x at hm ⊢
    exact .inl hm
theorem rec_sm (t : Two) : smT (recF t).1 := by
  rcases rec_two (t := t) with h | h
  · exact smT_ok h
  · rw [h]; exact smT_zero
theorem rec_head {t : Two} (h : (recF t).2.2.2 = true) : headOk (recF t).2.1 = true ∧ bookOk (recF t).2.2.1 = true ∧ keptOk t = true := by
  cases h1 : (headIn t).2
  · rw [rec_no h1] at h; cases h
  · rw [rec_yes h1]
    have h2 := headIn_ok h1
    refine ⟨h2, ?_, headIn_kept h1⟩
    simp only [bookInF, headIn_kept h1, h2]
    exact (up_ok h2 20).1
theorem rec_small (t : Two) : (recF t).2.1.seen.length ≤ 4 ∧ (recF t).2.2.1.entries.length ≤ 20 := by
  cases h1 : (headIn t).2
  · rw [rec_no h1]; decide
  · have h9 : (recF t).2.2.2 = true := by rw [rec_yes h1]
    have h2 := rec_head h9
    exact ⟨seen_len (head_bd h2.1).2.2.2.2, (book_bd h2.2.1).2.2.1⟩
theorem bookIn_ok {t : Two} {h : Head} (h1 : keptOk t = true) (h2 : headOk h = true) : bookOk (bookInF t h) = true := by
  simp only [bookInF, h1, h2]
  exact (up_ok h2 20).1
theorem mend_next {R : List (List Int)} {t : Two} {j : Nat} (h : j < R.length) : mendedF (mendUp R t j) j R[j] = mendUp R t (j + 1) := by
  simp only [mendUp]
  rw [getD_len h]
theorem c_SlotOf2 (x : Int) (h : indexOk x = true) : Pure Tryz.prog 95 [one (iC x)] (iR (slotF x)) := by
  have := c_SlotOf x
  rw [h] at this
  exact this
theorem headIn_not {t : Two} (h : keptOk t = false) : (headIn t).2 = false := by simp [headIn, h]
theorem c_Recovered (t : Two) : Pure Tryz.prog 36 [many (twoC t)] [many' (twoR ((recF t).1)), many' (headR (recF t).2.1), many' (bookR (recF t).2.2.1), one' (RC.v (.bool ((recF t).2.2.2)))] := by
 refine pure_intro (N := 72) Tryz.func36 rfl rfl rfl rfl (fun H w => ?_)
 obtain ⟨hd, hhd⟩ : ∃ x, x = (headIn t).1 := ⟨_, rfl⟩
 obtain ⟨bk, hbk⟩ : ∃ x, x = bookInF t hd := ⟨_, rfl⟩
 obtain ⟨t0, ht0⟩ : ∃ x, x = bothSyncF t := ⟨_, rfl⟩
 have c1 := c_HeadIn t
 rw [← hhd] at c1
 have c2 := c_BookIn t hd
 rw [← hbk] at c2
 have c3 := c_BothSynced t
 rw [← ht0] at c3
 refine sq (rg (evl_e (e_box rfl rfl rfl rfl) (evl_e (e_alloc ttOk rfl rfl rfl rfl) (evl_e (e_alloc ttOk rfl rfl rfl rfl) (evl_e (e_alloc ttOk rfl rfl rfl rfl) (xs rfl rfl (nl (et (sq (rg ?_))))))))))
 first | refine xo (q_load_pr ttOk rfl rfl rfl rfl (get_map (by omega)) rfl rfl) rfl ?_ | refine xl ttOk rfl rfl ?_
 refine evl_call (nm := 15) (cf rfl) c1 (rs_of rfl) rfl rfl rfl (xm rfl rfl (xo (q_ext rfl) rfl (xo (q_ext rfl) rfl (evl_e (e_alloc ttOk rfl rfl rfl rfl) (xst ttOk rfl rfl (xs rfl rfl (nl (et (sq (sq (rg (xm rfl rfl (xo (q_not rfl) rfl (nl (et (ev_cond_n rfl (fun h1 => ?_) (fun h1 => ?_)))))))))))))))))
 · try have d1 := of_decide_eq_false h1
   refine sq (rg (xo (q_build ttOk rfl) rfl (xo (q_build ttOk rfl) rfl (xo (q_build ttOk rfl) rfl (xst ttOk rfl rfl (xst ttOk rfl rfl (xst ttOk rfl rfl (xs rfl rfl (nl (et (ev_ret (evr_then (ret_pureN ttOk rfl rfl ?_)))))))))))))
   first
   | (rw [rec_no (by assumption)]; simp [RpLe, L2, RcLe, zeroD, zeroT, noHead]; done)
   | (rw [rec_no (headIn_not (by assumption))]; simp [RpLe, L2, RcLe, zeroD, zeroT, noHead]; done)
   | (obtain rfl : j = 22 := by omega
      rw [rec_yes (by assumption), ← hhd, ← hbk, ← ht0, ← hRR]; simp [RpLe, L2, RcLe]; done)
 · try have d1 := of_decide_eq_true h1
   have hke := headIn_kept h1
   have hho : headOk hd = true := by rw [hhd]; exact headIn_ok h1
   have hbo : bookOk bk = true := by rw [hbk]; exact bookIn_ok hke hho
   have hbd := book_bd hbo
   have hhb := head_bd hho
   obtain ⟨RR, hRR⟩ : ∃ x, x = recRows hd bk.entries := ⟨_, rfl⟩
   have hRl : RR.length = 22 := by rw [hRR]; exact recRows_len _ _
   refine ev_skip (et (sq (rg ?_)))
   first | refine xo (q_load_pr ttOk rfl rfl rfl rfl (get_map (by omega)) rfl rfl) rfl ?_ | refine xl ttOk rfl rfl ?_
   first | refine xo (q_load_pr ttOk rfl rfl rfl rfl (get_map (by omega)) rfl rfl) rfl ?_ | refine xl ttOk rfl rfl ?_
   refine evl_call (nm := 25) (cf rfl) c2 (rs_of rfl) rfl rfl rfl (evl_e (e_alloc ttOk rfl rfl rfl rfl) (xst ttOk rfl rfl (nl (et (sq (rg ?_))))))
   first | refine xo (q_load_pr ttOk rfl rfl rfl rfl (get_map (by omega)) rfl rfl) rfl ?_ | refine xl ttOk rfl rfl ?_
   refine evl_call (nm := 27) (cf rfl) c3 (rs_of rfl) rfl rfl rfl (evl_e (e_alloc ttOk rfl rfl rfl rfl) (xst ttOk rfl rfl (nl (et (sq (rg (evl_e (e_make (m := 22) ttOk rfl rfl rfl rfl rfl rfl rfl (by decide) rfl rfl) (xs rfl rfl (nl (et (ev_nils (r := 28) (m := 1) (l' := (List.replicate 22 ([] : List Int)).map fun r => [ints r]) rfl (by simp [nilTo]) rfl (sq (ev_drawq [7] mo (rdk_take 0 rfl (by kernel_rfl) trivial (q_move rfl) rfl (rdk_take 1 rfl (by kernel_rfl) trivial (q_fieldAddr ttOk rfl) rfl ?_)))))))))))))))
   first | refine rdk_take 2 rfl (by kernel_rfl) trivial (q_load_pr ttOk rfl rfl rfl rfl (get_map (by omega)) rfl rfl) rfl ?_ | refine rdk_take 2 rfl (by kernel_rfl) trivial (q_load ttOk rfl) rfl ?_
   refine rdk_take 3 rfl (by kernel_rfl) trivial (q_rem_pos rfl rfl (by omega)) rfl ?_
   first | refine rdk_take 4 rfl (by kernel_rfl) trivial (q_load_pr ttOk rfl rfl rfl rfl (get_map (by omega)) rfl rfl) rfl ?_ | refine rdk_take 4 rfl (by kernel_rfl) trivial (q_load ttOk rfl) rfl ?_
   refine rdk_one 5 (by kernel_rfl) (rdo_call (nm := 34) rfl trivial (cf rfl) (c_HeadRow hd) (rs_of rfl) rfl rfl rfl (rdk_take 6 rfl (by kernel_rfl) trivial (q_ix_rt (m := (hd.num % 2).toNat) ttOk rfl rfl rfl rfl rfl (by omega) (by rw [List.length_map, List.length_replicate]; omega)) rfl (rdk_one 7 (by kernel_rfl) (rdo_brk rfl rfl trivial (e_st_pr ttOk rfl rfl rfl rfl rfl rfl rfl (get_map (by rw [List.length_replicate]; omega)) rfl rfl rfl rfl rfl) (rdb_endq (by kernel_rfl) (et (sq (sq (rg (xs rfl rfl (nl (et (ev_blk (ev_loop (fun k : Nat => (⟨[(11, iV k), (10, .p false [.rt 101]), (6, pbV 6 0), (8, pbV 8 0), (9, pbV 9 0), (2, pbV 2 0), (3, pbV 3 0), (4, pbV 4 0)], [(9, 42, [.rt 103, .rt 104, .rt 105, .rt 106]), (8, 48, [.c (iC bk.base), .c (iC bk.time), .rt 108]), (6, 45, [.c (iC hd.num), .c (iC hd.base), .c (iC hd.time), .rt 107]), (4, 48, [.c (iC 0), .c (iC 0), .c .nil]), (3, 45, [.c (iC 0), .c (iC 0), .c (iC 0), .c .nil]), (2, 42, [.c .nil, .c .nil, .c .nil, .c .nil])], [(101, 72, 1, ((recRows hd (bk.entries.take k)).map fun r => [ints r])), (103, 72, 1, (t0.a.kept.map fun r => [ints r])), (104, 204, 2, (t0.a.wait.map fun x => [iC x.1, ints x.2])), (105, 72, 1, (t0.b.kept.map fun r => [ints r])), (106, 204, 2, (t0.b.wait.map fun x => [iC x.1, ints x.2])), (107, 148, 3, (hd.seen.map markC)), (108, 100, 9, (bk.entries.map entryC))], []⟩ : St)) (fun k => k ≤ bk.entries.length) (fun k => bk.entries.length - k) 0 [(101, 28), (103, 27), (104, 1027), (105, 2027), (106, 3027), (107, 15), (108, 25)] (by simp) ⟨by (repeat first | exact trivial | refine ⟨rfl, ?_⟩), by (repeat first | exact trivial | refine ⟨rfl, ?_⟩), ⟨⟨_, rfl, by simp [recRows, recRow0, List.map_set]⟩, ⟨_, rfl, by rfl⟩, ⟨_, rfl, by rfl⟩, ⟨_, rfl, by rfl⟩, ⟨_, rfl, by rfl⟩, ⟨_, rfl, by rfl⟩, ⟨_, rfl, by rfl⟩, trivial⟩, by (repeat first | exact trivial | refine ⟨⟨_, rfl, rfl⟩, ?_⟩), rfl⟩ ?_))))))))))))))
   intro k hp
   have p0 := hp
   show Ev _ _ _ _ (⟨[(11, iV k), (10, .p false [.rt 101]), (6, pbV 6 0), (8, pbV 8 0), (9, pbV 9 0), (2, pbV 2 0), (3, pbV 3 0), (4, pbV 4 0)], [(9, 42, [.rt 103, .rt 104, .rt 105, .rt 106]), (8, 48, [.c (iC bk.base), .c (iC bk.time), .rt 108]), (6, 45, [.c (iC hd.num), .c (iC hd.base), .c (iC hd.time), .rt 107]), (4, 48, [.c (iC 0), .c (iC 0), .c .nil]), (3, 45, [.c (iC 0), .c (iC 0), .c (iC 0), .c .nil]), (2, 42, [.c .nil, .c .nil, .c .nil, .c .nil])], [(101, 72, 1, ((recRows hd (bk.entries.take k)).map fun r => [ints r])), (103, 72, 1, (t0.a.kept.map fun r => [ints r])), (104, 204, 2, (t0.a.wait.map fun x => [iC x.1, ints x.2])), (105, 72, 1, (t0.b.kept.map fun r => [ints r])), (106, 204, 2, (t0.b.wait.map fun x => [iC x.1, ints x.2])), (107, 148, 3, (hd.seen.map markC)), (108, 100, 9, (bk.entries.map entryC))], []⟩ : St)
   refine sq (sq (rg (xm rfl rfl (xf ttOk rfl rfl ?_))))
   first | refine xo (q_load_pr ttOk rfl rfl rfl rfl (get_map (by omega)) rfl rfl) rfl ?_ | refine xl ttOk rfl rfl ?_
   refine xo (q_len_rtm ttOk rfl rfl rfl) rfl (xb ttOk rfl rfl (nl (et (ev_cond rfl (fun h2 => ?_) (fun h2 => ?_)))))
   · try have d2 := of_decide_eq_true h2
     refine ev_skip (et (sq (ev_blk ?_)))
     have hkl : k < bk.entries.length := by omega
     have heo := ents_ok hbd.2.2.2.2 _ (List.getElem_mem hkl)
     have hix := entry_ix heo
     have hsl : 2 ≤ slotF bk.entries[k].index ∧ slotF bk.entries[k].index ≤ 21 := by unfold slotF; omega
     have hrl := recRows_len hd (bk.entries.take k)
     refine ev_drawq [15] mo (rdk_take 0 rfl (by kernel_rfl) trivial (q_move rfl) rfl (rdk_take 1 rfl (by kernel_rfl) trivial (q_fieldAddr ttOk rfl) rfl ?_))
     first | refine rdk_take 2 rfl (by kernel_rfl) trivial (q_load_pr ttOk rfl rfl rfl rfl (get_map (by omega)) rfl rfl) rfl ?_ | refine rdk_take 2 rfl (by kernel_rfl) trivial (q_load ttOk rfl) rfl ?_
     refine rdk_take 3 rfl (by kernel_rfl) trivial (q_move rfl) rfl (rdk_take 4 rfl (by kernel_rfl) trivial (q_ix_rt (m := k) ttOk rfl rfl rfl rfl rfl rfl (by simp; omega)) rfl (rdk_take 5 rfl (by kernel_rfl) trivial (q_fieldAddr ttOk rfl) rfl ?_))
     first | refine rdk_take 6 rfl (by kernel_rfl) trivial (q_load_pr ttOk rfl rfl rfl rfl (get_map (by omega)) rfl rfl) rfl ?_ | refine rdk_take 6 rfl (by kernel_rfl) trivial (q_load ttOk rfl) rfl ?_
     refine rdk_take 8 rfl (by kernel_rfl) trivial (q_fieldAddr ttOk rfl) rfl ?_
     first | refine rdk_take 9 rfl (by kernel_rfl) trivial (q_load_pr ttOk rfl rfl rfl rfl (get_map (by omega)) rfl rfl) rfl ?_ | refine rdk_take 9 rfl (by kernel_rfl) trivial (q_load ttOk rfl) rfl ?_
     refine rdk_take 10 rfl (by kernel_rfl) trivial (q_move rfl) rfl (rdk_take 11 rfl (by kernel_rfl) trivial (q_ix_rt (m := k) ttOk rfl rfl rfl rfl rfl rfl (by simp; omega)) rfl ?_)
     first | refine rdk_take 12 rfl (by kernel_rfl) trivial (q_load_pr ttOk rfl rfl rfl rfl (get_map (by omega)) rfl rfl) rfl ?_ | refine rdk_take 12 rfl (by kernel_rfl) trivial (q_load ttOk rfl) rfl ?_
     refine rdk_one 7 (by kernel_rfl) (rdo_call (nm := 50) rfl trivial (cf rfl) (c_SlotOf2 (bk.entries[k]'(by omega)).index (inB_iff.2 hix)) (rs_of rfl) rfl rfl rfl (rdk_one 13 (by kernel_rfl) (rdo_call (nm := 56) rfl trivial (cf rfl) (c_SlotRow (bk.entries[k]'(by omega)) heo) (rs_of rfl) rfl rfl rfl (rdk_take 14 rfl (by kernel_rfl) trivial (q_ix_rt (m := (slotF (bk.entries[k]'(by omega)).index).toNat) ttOk rfl rfl rfl rfl rfl (by omega) (by rw [List.length_map, hrl]; omega)) rfl (rdk_one 15 (by kernel_rfl) (rdo_brk rfl rfl trivial (e_st_pr ttOk rfl rfl rfl rfl rfl rfl rfl (get_map (by omega)) rfl rfl rfl rfl rfl) (rdb_endq (by kernel_rfl) (eb (et (rg (xm rfl rfl (xa rfl rfl rfl (by omega) rfl (xs rfl rfl (nl (eve_round (k + 1) [] ?hp ⟨by (repeat first | exact trivial | refine ⟨rfl, ?_⟩), by (repeat first | exact trivial | refine ⟨rfl, ?_⟩), ⟨⟨_, rfl, by rw [← recRows_next (by omega)]; simp [setE, List.map_set]⟩, ⟨_, rfl, by rfl⟩, ⟨_, rfl, by rfl⟩, ⟨_, rfl, by rfl⟩, ⟨_, rfl, by rfl⟩, ⟨_, rfl, by rfl⟩, ⟨_, rfl, by rfl⟩, trivial⟩, by (repeat first | exact trivial | refine ⟨⟨_, rfl, rfl⟩, ?_⟩), rfl⟩)))))))))))))))
     case hp => exact ⟨by omega, by omega⟩
   · try have d2 := of_decide_eq_false h2
     refine ev_exit (evx_then (evx_then (evx_hit (et (sq (sq (rg (xs rfl rfl (nl (et (ev_blk (ev_loop (fun j : Nat => (⟨[(12, iV j), (10, .p false [.rt 101]), (6, pbV 6 0), (8, pbV 8 0), (9, pbV 9 0), (2, pbV 2 0), (3, pbV 3 0), (4, pbV 4 0)], [(9, 42, [.rt 103, .rt 104, .rt 105, .rt 106]), (8, 48, [.c (iC bk.base), .c (iC bk.time), .rt 108]), (6, 45, [.c (iC hd.num), .c (iC hd.base), .c (iC hd.time), .rt 107]), (4, 48, [.c (iC 0), .c (iC 0), .c .nil]), (3, 45, [.c (iC 0), .c (iC 0), .c (iC 0), .c .nil]), (2, 42, [.c .nil, .c .nil, .c .nil, .c .nil])], [(101, 72, 1, (RR.map fun r => [ints r])), (103, 72, 1, ((mendUp RR t0 j).a.kept.map fun r => [ints r])), (104, 204, 2, ((mendUp RR t0 j).a.wait.map fun x => [iC x.1, ints x.2])), (105, 72, 1, ((mendUp RR t0 j).b.kept.map fun r => [ints r])), (106, 204, 2, ((mendUp RR t0 j).b.wait.map fun x => [iC x.1, ints x.2])), (107, 148, 3, (hd.seen.map markC)), (108, 100, 9, (bk.entries.map entryC))], []⟩ : St)) (fun j => j ≤ 22) (fun j => 22 - j) 0 [] (by simp) ⟨by (repeat first | exact trivial | refine ⟨rfl, ?_⟩), by (repeat first | exact trivial | refine ⟨rfl, ?_⟩), ⟨⟨_, rfl, by rw [hRR, List.take_of_length_le (by omega)]⟩, ⟨_, rfl, by rfl⟩, ⟨_, rfl, by rfl⟩, ⟨_, rfl, by rfl⟩, ⟨_, rfl, by rfl⟩, ⟨_, rfl, by rfl⟩, ⟨_, rfl, by rfl⟩, trivial⟩, by (repeat first | exact trivial | refine ⟨⟨_, rfl, rfl⟩, ?_⟩), rfl⟩ ?_))))))))))))
     intro j hp
     have q0 := hp
     show Ev _ _ _ _ (⟨[(12, iV j), (10, .p false [.rt 101]), (6, pbV 6 0), (8, pbV 8 0), (9, pbV 9 0), (2, pbV 2 0), (3, pbV 3 0), (4, pbV 4 0)], [(9, 42, [.rt 103, .rt 104, .rt 105, .rt 106]), (8, 48, [.c (iC bk.base), .c (iC bk.time), .rt 108]), (6, 45, [.c (iC hd.num), .c (iC hd.base), .c (iC hd.time), .rt 107]), (4, 48, [.c (iC 0), .c (iC 0), .c .nil]), (3, 45, [.c (iC 0), .c (iC 0), .c (iC 0), .c .nil]), (2, 42, [.c .nil, .c .nil, .c .nil, .c .nil])], [(101, 72, 1, (RR.map fun r => [ints r])), (103, 72, 1, ((mendUp RR t0 j).a.kept.map fun r => [ints r])), (104, 204, 2, ((mendUp RR t0 j).a.wait.map fun x => [iC x.1, ints x.2])), (105, 72, 1, ((mendUp RR t0 j).b.kept.map fun r => [ints r])), (106, 204, 2, ((mendUp RR t0 j).b.wait.map fun x => [iC x.1, ints x.2])), (107, 148, 3, (hd.seen.map markC)), (108, 100, 9, (bk.entries.map entryC))], []⟩ : St)
     refine sq (sq (rg (xm rfl rfl (xb ttOk rfl rfl (nl (et (ev_cond rfl (fun h3 => ?_) (fun h3 => ?_))))))))
     · try have d3 := of_decide_eq_true h3
       refine ev_skip (et (sq (ev_blk (ev_drawq [7] mo ?_))))
       first | refine rdk_take 0 rfl (by kernel_rfl) trivial (q_load_pr ttOk rfl rfl rfl rfl (get_map (by omega)) rfl rfl) rfl ?_ | refine rdk_take 0 rfl (by kernel_rfl) trivial (q_load ttOk rfl) rfl ?_
       refine rdk_take 1 rfl (by kernel_rfl) trivial (q_move rfl) rfl (rdk_take 2 rfl (by kernel_rfl) trivial (q_move rfl) rfl (rdk_take 3 rfl (by kernel_rfl) trivial (q_move rfl) rfl (rdk_take 4 rfl (by kernel_rfl) trivial (q_ix_rt (m := j) ttOk rfl rfl rfl rfl rfl rfl (by rw [List.length_map]; omega)) rfl ?_)))
       first | refine rdk_take 5 rfl (by kernel_rfl) trivial (q_load_pr ttOk rfl rfl rfl rfl (get_map (by omega)) rfl rfl) rfl ?_ | refine rdk_take 5 rfl (by kernel_rfl) trivial (q_load ttOk rfl) rfl ?_
       refine rdk_one 6 (by kernel_rfl) (rdo_call (nm := 68) rfl trivial (cf rfl) (c_MendedAt (mendUp RR t0 j) j (RR[j]'(by omega))) (rs_c3 rfl rfl rfl rfl rfl (get_map (by omega)) rfl) rfl rfl rfl (rdk_one 7 (by kernel_rfl) (rdo_brk rfl rfl trivial (e_store ttOk rfl) (rdb_endq (by kernel_rfl) (eb (et (rg (xm rfl rfl (xa rfl rfl rfl (by omega) rfl (xs rfl rfl (nl (eve_round (j + 1) [(103, 68), (104, 1068), (105, 2068), (106, 3068)] ?hp ⟨by (repeat first | exact trivial | refine ⟨rfl, ?_⟩), by (repeat first | exact trivial | refine ⟨rfl, ?_⟩), ⟨⟨_, rfl, by rfl⟩, ⟨_, rfl, by rw [← mend_next (by omega)]⟩, ⟨_, rfl, by rw [← mend_next (by omega)]⟩, ⟨_, rfl, by rw [← mend_next (by omega)]⟩, ⟨_, rfl, by rw [← mend_next (by omega)]⟩, ⟨_, rfl, by rfl⟩, ⟨_, rfl, by rfl⟩, trivial⟩, by (repeat first | exact trivial | refine ⟨⟨_, rfl, rfl⟩, ?_⟩), rfl⟩))))))))))))
       case hp => exact ⟨by omega, by omega⟩
     · try have d3 := of_decide_eq_false h3
       refine ev_exit (evx_then (evx_then (evx_hit (et (sq ?_)))))
       refine' ev_drawhJ mo ?hdr1 ?kdr1
       case hdr1 =>
         refine rdh_3 0 1 2 (by kernel_rfl) ?_ ?_ ?_
         · first | refine rdho_q rfl trivial (q_load_pr ttOk rfl rfl rfl rfl (get_map (by omega)) rfl rfl) rfl ?_ | refine rdho_q rfl trivial (q_load ttOk rfl) rfl ?_
           refine rdh_3 1 2 3 (by kernel_rfl) ?_ ?_ ?_
           · first | refine rdho_q rfl trivial (q_load_pr ttOk rfl rfl rfl rfl (get_map (by omega)) rfl rfl) rfl ?_ | refine rdho_q rfl trivial (q_load ttOk rfl) rfl ?_
             refine rdh_2 2 3 (by kernel_rfl) ?_ ?_
             · first | refine rdho_q rfl trivial (q_load_pr ttOk rfl rfl rfl rfl (get_map (by omega)) rfl rfl) rfl ?_ | refine rdho_q rfl trivial (q_load ttOk rfl) rfl ?_
               refine rdh_1 3 (by kernel_rfl) (rdho_eff rfl trivial (e_store ttOk rfl) (rdh_1 4 (by kernel_rfl) (rdho_eff rfl trivial (e_store ttOk rfl) (rdh_1 5 (by kernel_rfl) (rdho_eff rfl trivial (e_store ttOk rfl) (rdh_take 6 rfl (by kernel_rfl) trivial (QuietW.h (qw_assign rfl)) rfl ?_))))))
               exact rdh_fin (by kernel_rfl)
             · refine rdho_eff rfl trivial (e_store ttOk rfl) (rdh_2 2 4 (by kernel_rfl) ?_ ?_)
               · first | refine rdho_q rfl trivial (q_load_pr ttOk rfl rfl rfl rfl (get_map (by omega)) rfl rfl) rfl ?_ | refine rdho_q rfl trivial (q_load ttOk rfl) rfl ?_
                 refine rdh_1 4 (by kernel_rfl) (rdho_eff rfl trivial (e_store ttOk rfl) (rdh_1 5 (by kernel_rfl) (rdho_eff rfl trivial (e_store ttOk rfl) (rdh_take 6 rfl (by kernel_rfl) trivial (QuietW.h (qw_assign rfl)) rfl ?_))))
                 exact rdh_le [] (by kernel_rfl) ⟨by (repeat first | exact trivial | refine ⟨rfl, ?_⟩), by (repeat first | exact trivial | refine ⟨rfl, ?_⟩), by (repeat first | exact trivial | refine ⟨⟨_, rfl, rfl⟩, ?_⟩), by (repeat first | exact trivial | refine ⟨⟨_, rfl, rfl⟩, ?_⟩), rfl⟩
               · refine rdho_eff rfl trivial (e_store ttOk rfl) (rdh_1 2 (by kernel_rfl) ?_)
                 first | refine rdho_q rfl trivial (q_load_pr ttOk rfl rfl rfl rfl (get_map (by omega)) rfl rfl) rfl ?_ | refine rdho_q rfl trivial (q_load ttOk rfl) rfl ?_
                 refine rdh_1 5 (by kernel_rfl) (rdho_eff rfl trivial (e_store ttOk rfl) (rdh_take 6 rfl (by kernel_rfl) trivial (QuietW.h (qw_assign rfl)) rfl ?_))
                 exact rdh_le [] (by kernel_rfl) ⟨by (repeat first | exact trivial | refine ⟨rfl, ?_⟩), by (repeat first | exact trivial | refine ⟨rfl, ?_⟩), by (repeat first | exact trivial | refine ⟨⟨_, rfl, rfl⟩, ?_⟩), by (repeat first | exact trivial | refine ⟨⟨_, rfl, rfl⟩, ?_⟩), rfl⟩
           · first | refine rdho_q rfl trivial (q_load_pr ttOk rfl rfl rfl rfl (get_map (by omega)) rfl rfl) rfl ?_ | refine rdho_q rfl trivial (q_load ttOk rfl) rfl ?_
             refine rdh_2 1 3 (by kernel_rfl) ?_ ?_
             · first | refine rdho_q rfl trivial (q_load_pr ttOk rfl rfl rfl rfl (get_map (by omega)) rfl rfl) rfl ?_ | refine rdho_q rfl trivial (q_load ttOk rfl) rfl ?_
               refine rdh_1 3 (by kernel_rfl) (rdho_eff rfl trivial (e_store ttOk rfl) (rdh_1 4 (by kernel_rfl) (rdho_eff rfl trivial (e_store ttOk rfl) (rdh_1 5 (by kernel_rfl) (rdho_eff rfl trivial (e_store ttOk rfl) (rdh_take 6 rfl (by kernel_rfl) trivial (QuietW.h (qw_assign rfl)) rfl ?_))))))
               exact rdh_le [] (by kernel_rfl) ⟨by (repeat first | exact trivial | refine ⟨rfl, ?_⟩), by (repeat first | exact trivial | refine ⟨rfl, ?_⟩), by (repeat first | exact trivial | refine ⟨⟨_, rfl, rfl⟩, ?_⟩), by (repeat first | exact trivial | refine ⟨⟨_, rfl, rfl⟩, ?_⟩), rfl⟩
             · refine rdho_eff rfl trivial (e_store ttOk rfl) (rdh_1 1 (by kernel_rfl) ?_)
               first | refine rdho_q rfl trivial (q_load_pr ttOk rfl rfl rfl rfl (get_map (by omega)) rfl rfl) rfl ?_ | refine rdho_q rfl trivial (q_load ttOk rfl) rfl ?_
               refine rdh_1 4 (by kernel_rfl) (rdho_eff rfl trivial (e_store ttOk rfl) (rdh_1 5 (by kernel_rfl) (rdho_eff rfl trivial (e_store ttOk rfl) (rdh_take 6 rfl (by kernel_rfl) trivial (QuietW.h (qw_assign rfl)) rfl ?_))))
               exact rdh_le [] (by kernel_rfl) ⟨by (repeat first | exact trivial | refine ⟨rfl, ?_⟩), by (repeat first | exact trivial | refine ⟨rfl, ?_⟩), by (repeat first | exact trivial | refine ⟨⟨_, rfl, rfl⟩, ?_⟩), by (repeat first | exact trivial | refine ⟨⟨_, rfl, rfl⟩, ?_⟩), rfl⟩
           · refine rdho_eff rfl trivial (e_store ttOk rfl) (rdh_2 1 2 (by kernel_rfl) ?_ ?_)
             · first | refine rdho_q rfl trivial (q_load_pr ttOk rfl rfl rfl rfl (get_map (by omega)) rfl rfl) rfl ?_ | refine rdho_q rfl trivial (q_load ttOk rfl) rfl ?_
               refine rdh_2 2 4 (by kernel_rfl) ?_ ?_
               · first | refine rdho_q rfl trivial (q_load_pr ttOk rfl rfl rfl rfl (get_map (by omega)) rfl rfl) rfl ?_ | refine rdho_q rfl trivial (q_load ttOk rfl) rfl ?_
                 refine rdh_1 4 (by kernel_rfl) (rdho_eff rfl trivial (e_store ttOk rfl) (rdh_1 5 (by kernel_rfl) (rdho_eff rfl trivial (e_store ttOk rfl) (rdh_take 6 rfl (by kernel_rfl) trivial (QuietW.h (qw_assign rfl)) rfl ?_))))
                 exact rdh_le [] (by kernel_rfl) ⟨by (repeat first | exact trivial | refine ⟨rfl, ?_⟩), by (repeat first | exact trivial | refine ⟨rfl, ?_⟩), by (repeat first | exact trivial | refine ⟨⟨_, rfl, rfl⟩, ?_⟩), by (repeat first | exact trivial | refine ⟨⟨_, rfl, rfl⟩, ?_⟩), rfl⟩
               · refine rdho_eff rfl trivial (e_store ttOk rfl) (rdh_1 2 (by kernel_rfl) ?_)
                 first | refine rdho_q rfl trivial (q_load_pr ttOk rfl rfl rfl rfl (get_map (by omega)) rfl rfl) rfl ?_ | refine rdho_q rfl trivial (q_load ttOk rfl) rfl ?_
                 refine rdh_1 5 (by kernel_rfl) (rdho_eff rfl trivial (e_store ttOk rfl) (rdh_take 6 rfl (by kernel_rfl) trivial (QuietW.h (qw_assign rfl)) rfl ?_))
                 exact rdh_le [] (by kernel_rfl) ⟨by (repeat first | exact trivial | refine ⟨rfl, ?_⟩), by (repeat first | exact trivial | refine ⟨rfl, ?_⟩), by (repeat first | exact trivial | refine ⟨⟨_, rfl, rfl⟩, ?_⟩), by (repeat first | exact trivial | refine ⟨⟨_, rfl, rfl⟩, ?_⟩), rfl⟩
             · first | refine rdho_q rfl trivial (q_load_pr ttOk rfl rfl rfl rfl (get_map (by omega)) rfl rfl) rfl ?_ | refine rdho_q rfl trivial (q_load ttOk rfl) rfl ?_
               refine rdh_1 1 (by kernel_rfl) ?_
               first | refine rdho_q rfl trivial (q_load_pr ttOk rfl rfl rfl rfl (get_map (by omega)) rfl rfl) rfl ?_ | refine rdho_q rfl trivial (q_load ttOk rfl) rfl ?_
               refine rdh_1 4 (by kernel_rfl) (rdho_eff rfl trivial (e_store ttOk rfl) (rdh_1 5 (by kernel_rfl) (rdho_eff rfl trivial (e_store ttOk rfl) (rdh_take 6 rfl (by kernel_rfl) trivial (QuietW.h (qw_assign rfl)) rfl ?_))))
               exact rdh_le [] (by kernel_rfl) ⟨by (repeat first | exact trivial | refine ⟨rfl, ?_⟩), by (repeat first | exact trivial | refine ⟨rfl, ?_⟩), by (repeat first | exact trivial | refine ⟨⟨_, rfl, rfl⟩, ?_⟩), by (repeat first | exact trivial | refine ⟨⟨_, rfl, rfl⟩, ?_⟩), rfl⟩
         · first | refine rdho_q rfl trivial (q_load_pr ttOk rfl rfl rfl rfl (get_map (by omega)) rfl rfl) rfl ?_ | refine rdho_q rfl trivial (q_load ttOk rfl) rfl ?_
           refine rdh_2 0 2 (by kernel_rfl) ?_ ?_
           · first | refine rdho_q rfl trivial (q_load_pr ttOk rfl rfl rfl rfl (get_map (by omega)) rfl rfl) rfl ?_ | refine rdho_q rfl trivial (q_load ttOk rfl) rfl ?_
             refine rdh_2 2 3 (by kernel_rfl) ?_ ?_
             · first | refine rdho_q rfl trivial (q_load_pr ttOk rfl rfl rfl rfl (get_map (by omega)) rfl rfl) rfl ?_ | refine rdho_q rfl trivial (q_load ttOk rfl) rfl ?_
               refine rdh_1 3 (by kernel_rfl) (rdho_eff rfl trivial (e_store ttOk rfl) (rdh_1 4 (by kernel_rfl) (rdho_eff rfl trivial (e_store ttOk rfl) (rdh_1 5 (by kernel_rfl) (rdho_eff rfl trivial (e_store ttOk rfl) (rdh_take 6 rfl (by kernel_rfl) trivial (QuietW.h (qw_assign rfl)) rfl ?_))))))
               exact rdh_le [] (by kernel_rfl) ⟨by (repeat first | exact trivial | refine ⟨rfl, ?_⟩), by (repeat first | exact trivial | refine ⟨rfl, ?_⟩), by (repeat first | exact trivial | refine ⟨⟨_, rfl, rfl⟩, ?_⟩), by (repeat first | exact trivial | refine ⟨⟨_, rfl, rfl⟩, ?_⟩), rfl⟩
             · refine rdho_eff rfl trivial (e_store ttOk rfl) (rdh_2 2 4 (by kernel_rfl) ?_ ?_)
               · first | refine rdho_q rfl trivial (q_load_pr ttOk rfl rfl rfl rfl (get_map (by omega)) rfl rfl) rfl ?_ | refine rdho_q rfl trivial (q_load ttOk rfl) rfl ?_
                 refine rdh_1 4 (by kernel_rfl) (rdho_eff rfl trivial (e_store ttOk rfl) (rdh_1 5 (by kernel_rfl) (rdho_eff rfl trivial (e_store ttOk rfl) (rdh_take 6 rfl (by kernel_rfl) trivial (QuietW.h (qw_assign rfl)) rfl ?_))))
                 exact rdh_le [] (by kernel_rfl) ⟨by (repeat first | exact trivial | refine ⟨rfl, ?_⟩), by (repeat first | exact trivial | refine ⟨rfl, ?_⟩), by (repeat first | exact trivial | refine ⟨⟨_, rfl, rfl⟩, ?_⟩), by (repeat first | exact trivial | refine ⟨⟨_, rfl, rfl⟩, ?_⟩), rfl⟩
               · refine rdho_eff rfl trivial (e_store ttOk rfl) (rdh_1 2 (by kernel_rfl) ?_)
                 first | refine rdho_q rfl trivial (q_load_pr ttOk rfl rfl rfl rfl (get_map (by omega)) rfl rfl) rfl ?_ | refine rdho_q rfl trivial (q_load ttOk rfl) rfl ?_
                 refine rdh_1 5 (by kernel_rfl) (rdho_eff rfl trivial (e_store ttOk rfl) (rdh_take 6 rfl (by kernel_rfl) trivial (QuietW.h (qw_assign rfl)) rfl ?_))
                 exact rdh_le [] (by kernel_rfl) ⟨by (repeat first | exact trivial | refine ⟨rfl, ?_⟩), by (repeat first | exact trivial | refine ⟨rfl, ?_⟩), by (repeat first | exact trivial | refine ⟨⟨_, rfl, rfl⟩, ?_⟩), by (repeat first | exact trivial | refine ⟨⟨_, rfl, rfl⟩, ?_⟩), rfl⟩
           · first | refine rdho_q rfl trivial (q_load_pr ttOk rfl rfl rfl rfl (get_map (by omega)) rfl rfl) rfl ?_ | refine rdho_q rfl trivial (q_load ttOk rfl) rfl ?_
             refine rdh_1 0 (by kernel_rfl) ?_
             first | refine rdho_q rfl trivial (q_load_pr ttOk rfl rfl rfl rfl (get_map (by omega)) rfl rfl) rfl ?_ | refine rdho_q rfl trivial (q_load ttOk rfl) rfl ?_
             refine rdh_1 3 (by kernel_rfl) (rdho_eff rfl trivial (e_store ttOk rfl) (rdh_1 4 (by kernel_rfl) (rdho_eff rfl trivial (e_store ttOk rfl) (rdh_1 5 (by kernel_rfl) (rdho_eff rfl trivial (e_store ttOk rfl) (rdh_take 6 rfl (by kernel_rfl) trivial (QuietW.h (qw_assign rfl)) rfl ?_))))))
             exact rdh_le [] (by kernel_rfl) ⟨by (repeat first | exact trivial | refine ⟨rfl, ?_⟩), by (repeat first | exact trivial | refine ⟨rfl, ?_⟩), by (repeat first | exact trivial | refine ⟨⟨_, rfl, rfl⟩, ?_⟩), by (repeat first | exact trivial | refine ⟨⟨_, rfl, rfl⟩, ?_⟩), rfl⟩
         · first | refine rdho_q rfl trivial (q_load_pr ttOk rfl rfl rfl rfl (get_map (by omega)) rfl rfl) rfl ?_ | refine rdho_q rfl trivial (q_load ttOk rfl) rfl ?_
           refine rdh_2 0 1 (by kernel_rfl) ?_ ?_
           · first | refine rdho_q rfl trivial (q_load_pr ttOk rfl rfl rfl rfl (get_map (by omega)) rfl rfl) rfl ?_ | refine rdho_q rfl trivial (q_load ttOk rfl) rfl ?_
             refine rdh_2 1 3 (by kernel_rfl) ?_ ?_
             · first | refine rdho_q rfl trivial (q_load_pr ttOk rfl rfl rfl rfl (get_map (by omega)) rfl rfl) rfl ?_ | refine rdho_q rfl trivial (q_load ttOk rfl) rfl ?_
               refine rdh_1 3 (by kernel_rfl) (rdho_eff rfl trivial (e_store ttOk rfl) (rdh_1 4 (by kernel_rfl) (rdho_eff rfl trivial (e_store ttOk rfl) (rdh_1 5 (by kernel_rfl) (rdho_eff rfl trivial (e_store ttOk rfl) (rdh_take 6 rfl (by kernel_rfl) trivial (QuietW.h (qw_assign rfl)) rfl ?_))))))
               exact rdh_le [] (by kernel_rfl) ⟨by (repeat first | exact trivial | refine ⟨rfl, ?_⟩), by (repeat first | exact trivial | refine ⟨rfl, ?_⟩), by (repeat first | exact trivial | refine ⟨⟨_, rfl, rfl⟩, ?_⟩), by (repeat first | exact trivial | refine ⟨⟨_, rfl, rfl⟩, ?_⟩), rfl⟩
             · refine rdho_eff rfl trivial (e_store ttOk rfl) (rdh_1 1 (by kernel_rfl) ?_)
               first | refine rdho_q rfl trivial (q_load_pr ttOk rfl rfl rfl rfl (get_map (by omega)) rfl rfl) rfl ?_ | refine rdho_q rfl trivial (q_load ttOk rfl) rfl ?_
               refine rdh_1 4 (by kernel_rfl) (rdho_eff rfl trivial (e_store ttOk rfl) (rdh_1 5 (by kernel_rfl) (rdho_eff rfl trivial (e_store ttOk rfl) (rdh_take 6 rfl (by kernel_rfl) trivial (QuietW.h (qw_assign rfl)) rfl ?_))))
               exact rdh_le [] (by kernel_rfl) ⟨by (repeat first | exact trivial | refine ⟨rfl, ?_⟩), by (repeat first | exact trivial | refine ⟨rfl, ?_⟩), by (repeat first | exact trivial | refine ⟨⟨_, rfl, rfl⟩, ?_⟩), by (repeat first | exact trivial | refine ⟨⟨_, rfl, rfl⟩, ?_⟩), rfl⟩
           · first | refine rdho_q rfl trivial (q_load_pr ttOk rfl rfl rfl rfl (get_map (by omega)) rfl rfl) rfl ?_ | refine rdho_q rfl trivial (q_load ttOk rfl) rfl ?_
             refine rdh_1 0 (by kernel_rfl) ?_
             first | refine rdho_q rfl trivial (q_load_pr ttOk rfl rfl rfl rfl (get_map (by omega)) rfl rfl) rfl ?_ | refine rdho_q rfl trivial (q_load ttOk rfl) rfl ?_
             refine rdh_1 3 (by kernel_rfl) (rdho_eff rfl trivial (e_store ttOk rfl) (rdh_1 4 (by kernel_rfl) (rdho_eff rfl trivial (e_store ttOk rfl) (rdh_1 5 (by kernel_rfl) (rdho_eff rfl trivial (e_store ttOk rfl) (rdh_take 6 rfl (by kernel_rfl) trivial (QuietW.h (qw_assign rfl)) rfl ?_))))))
             exact rdh_le [] (by kernel_rfl) ⟨by (repeat first | exact trivial | refine ⟨rfl, ?_⟩), by (repeat first | exact trivial | refine ⟨rfl, ?_⟩), by (repeat first | exact trivial | refine ⟨⟨_, rfl, rfl⟩, ?_⟩), by (repeat first | exact trivial | refine ⟨⟨_, rfl, rfl⟩, ?_⟩), rfl⟩
       refine et (ev_ret (ret_pureN ttOk rfl rfl ?_))
       first
       | (rw [rec_no (by assumption)]; simp [RpLe, L2, RcLe, zeroD, zeroT, noHead]; done)
       | (rw [rec_no (headIn_not (by assumption))]; simp [RpLe, L2, RcLe, zeroD, zeroT, noHead]; done)
       | (obtain rfl : j = 22 := by omega
          rw [rec_yes (by assumption), ← hhd, ← hbk, ← ht0, ← hRR]; simp [RpLe, L2, RcLe]; done)
theorem c_Recovered' (t : Two) : Pure Tryz.prog 37 [many (twoC t)] [many' (twoR ((recF t).1)), many' (headR (recF t).2.1), many' (bookR (recF t).2.2.1), one' (RC.v (.bool ((recF t).2.2.2)))] := by
 refine pure_intro (N := 70) Tryz.func37 rfl rfl rfl rfl (fun H w => ?_)
 obtain ⟨hd, hhd⟩ : ∃ x, x = (headIn t).1 := ⟨_, rfl⟩
 obtain ⟨bk, hbk⟩ : ∃ x, x = bookInF t hd := ⟨_, rfl⟩
 obtain ⟨t0, ht0⟩ : ∃ x, x = bothSyncF t := ⟨_, rfl⟩
 have c1 := c_HeadIn' (bothSyncF t)
 rw [headIn_sync, ← hhd, ← ht0] at c1
 have c2 := c_BookIn' (bothSyncF t) hd
 rw [bookIn_sync, ← hbk, ← ht0] at c2
 have c3 := c_BothSynced' t
 rw [← ht0] at c3
 refine sq (rg (evl_e (e_box rfl rfl rfl rfl) (evl_e (e_alloc ttOk rfl rfl rfl rfl) (evl_e (e_alloc ttOk rfl rfl rfl rfl) (evl_e (e_alloc ttOk rfl rfl rfl rfl) (xs rfl rfl (nl (et (sq (sq (rg ?_)))))))))))
 first | refine xo (q_load_pr ttOk rfl rfl rfl rfl (get_map (by omega)) rfl rfl) rfl ?_ | refine xl ttOk rfl rfl ?_
 refine evl_call (nm := 16) (cf rfl) (c_KeptOk' t) (rs_of rfl) rfl rfl rfl (xo (q_not rfl) rfl (nl (et (ev_cond_n rfl (fun h1 => ?_) (fun h1 => ?_)))))
 · try have d1 := of_decide_eq_false h1
   refine sq (rg (xo (q_build ttOk rfl) rfl (xo (q_build ttOk rfl) rfl (xo (q_build ttOk rfl) rfl (xst ttOk rfl rfl (xst ttOk rfl rfl (xst ttOk rfl rfl (xs rfl rfl (nl (et (ev_ret (evr_then (ret_pureN ttOk rfl rfl ?_)))))))))))))
   first
   | (rw [rec_no (by assumption)]; simp [RpLe, L2, RcLe, zeroD, zeroT, noHead]; done)
   | (rw [rec_no (headIn_not (by assumption))]; simp [RpLe, L2, RcLe, zeroD, zeroT, noHead]; done)
   | (obtain rfl : j = 22 := by omega
      rw [rec_yes (by assumption), ← hhd, ← hbk, ← ht0, ← hRR]; simp [RpLe, L2, RcLe]; done)
 · try have d1 := of_decide_eq_true h1
   refine ev_skip (et (sq (rg ?_)))
   first | refine xo (q_load_pr ttOk rfl rfl rfl rfl (get_map (by omega)) rfl rfl) rfl ?_ | refine xl ttOk rfl rfl ?_
   refine evl_call (nm := 22) (cf rfl) c3 (rs_of rfl) rfl rfl rfl (evl_e (e_alloc ttOk rfl rfl rfl rfl) (xst ttOk rfl rfl (nl (et (sq (rg ?_))))))
   first | refine xo (q_load_pr ttOk rfl rfl rfl rfl (get_map (by omega)) rfl rfl) rfl ?_ | refine xl ttOk rfl rfl ?_
   refine evl_call (nm := 25) (cf rfl) c1 (rs_of rfl) rfl rfl rfl (xm rfl rfl (xo (q_ext rfl) rfl (xo (q_ext rfl) rfl (evl_e (e_alloc ttOk rfl rfl rfl rfl) (xst ttOk rfl rfl (xs rfl rfl (nl (et (sq (sq (rg (xm rfl rfl (xo (q_not rfl) rfl (nl (et (ev_cond_n rfl (fun h2 => ?_) (fun h2 => ?_)))))))))))))))))
   · try have d2 := of_decide_eq_false h2
     refine sq (rg (xo (q_build ttOk rfl) rfl (xo (q_build ttOk rfl) rfl (xo (q_build ttOk rfl) rfl (xst ttOk rfl rfl (xst ttOk rfl rfl (xst ttOk rfl rfl (xs rfl rfl (nl (et (ev_ret (evr_then (ret_pureN ttOk rfl rfl ?_)))))))))))))
     first
     | (rw [rec_no (by assumption)]; simp [RpLe, L2, RcLe, zeroD, zeroT, noHead]; done)
     | (rw [rec_no (headIn_not (by assumption))]; simp [RpLe, L2, RcLe, zeroD, zeroT, noHead]; done)
     | (obtain rfl : j = 22 := by omega
        rw [rec_yes (by assumption), ← hhd, ← hbk, ← ht0, ← hRR]; simp [RpLe, L2, RcLe]; done)
   · try have d2 := of_decide_eq_true h2
     have hke := headIn_kept h2
     have hho : headOk hd = true := by rw [hhd]; exact headIn_ok h2
     have hbo : bookOk bk = true := by rw [hbk]; exact bookIn_ok hke hho
     have hbd := book_bd hbo
     have hhb := head_bd hho
     obtain ⟨RR, hRR⟩ : ∃ x, x = recRows hd bk.entries := ⟨_, rfl⟩
     have hRl : RR.length = 22 := by rw [hRR]; exact recRows_len _ _
     refine ev_skip (et (sq (rg ?_)))
     first | refine xo (q_load_pr ttOk rfl rfl rfl rfl (get_map (by omega)) rfl rfl) rfl ?_ | refine xl ttOk rfl rfl ?_
     first | refine xo (q_load_pr ttOk rfl rfl rfl rfl (get_map (by omega)) rfl rfl) rfl ?_ | refine xl ttOk rfl rfl ?_
     refine evl_call (nm := 35) (cf rfl) c2 (rs_of rfl) rfl rfl rfl (evl_e (e_alloc ttOk rfl rfl rfl rfl) (xst ttOk rfl rfl (nl (et (sq (rg (xo (q_build ttOk rfl) rfl (evl_e (e_alloc ttOk rfl rfl rfl rfl) (xst ttOk rfl rfl (nl (et (ev_arr (b := 10) 10 110 22 rfl rfl rfl rfl (by decide) (by decide) rfl (ev_nils (r := 110) (m := 1) (l' := (List.replicate 22 ([] : List Int)).map fun r => [ints r]) rfl (by simp [nilTo]) rfl (sq (ev_drawq [6] mo (rdk_take 0 rfl (by kernel_rfl) trivial (q_fieldAddr ttOk rfl) rfl ?_))))))))))))))))
     first | refine rdk_take 1 rfl (by kernel_rfl) trivial (q_load_pr ttOk rfl rfl rfl rfl (get_map (by omega)) rfl rfl) rfl ?_ | refine rdk_take 1 rfl (by kernel_rfl) trivial (q_load ttOk rfl) rfl ?_
     refine rdk_take 2 rfl (by kernel_rfl) trivial (q_rem_pos rfl rfl (by omega)) rfl ?_
     first | refine rdk_take 3 rfl (by kernel_rfl) trivial (q_load_pr ttOk rfl rfl rfl rfl (get_map (by omega)) rfl rfl) rfl ?_ | refine rdk_take 3 rfl (by kernel_rfl) trivial (q_load ttOk rfl) rfl ?_
     refine rdk_one 4 (by kernel_rfl) (rdo_call (nm := 41) rfl trivial (cf rfl) (c_HeadRow' hd) (rs_of rfl) rfl rfl rfl (rdk_take 5 rfl (by kernel_rfl) trivial (q_ix_arrp (hd.num % 2).toNat ttOk rfl rfl rfl (by omega) (by omega)) rfl (rdk_one 6 (by kernel_rfl) (rdo_brk rfl rfl trivial (e_st_pr ttOk rfl rfl rfl rfl rfl rfl rfl (get_map (by rw [List.length_replicate]; omega)) rfl rfl rfl rfl rfl) (rdb_endq (by kernel_rfl) (et (sq (sq (rg (xf ttOk rfl rfl ?_))))))))))
     first | refine xo (q_load_pr ttOk rfl rfl rfl rfl (get_map (by omega)) rfl rfl) rfl ?_ | refine xl ttOk rfl rfl ?_
     refine xo (q_len_rtm ttOk rfl rfl rfl) rfl (xm rfl rfl (nl (et (ev_blk (ev_loop (fun k : Nat => (⟨[(46, iV k), (44, .p false [.rt 108]), (45, iV bk.entries.length), (10, .p false [.pr 110 1 0 0]), (6, pbV 6 0), (7, pbV 7 0), (9, pbV 9 0), (2, pbV 2 0), (3, pbV 3 0), (4, pbV 4 0)], [(6, 42, [.rt 103, .rt 104, .rt 105, .rt 106]), (9, 48, [.c (iC bk.base), .c (iC bk.time), .rt 108]), (7, 45, [.c (iC hd.num), .c (iC hd.base), .c (iC hd.time), .rt 107]), (4, 48, [.c (iC 0), .c (iC 0), .c .nil]), (3, 45, [.c (iC 0), .c (iC 0), .c (iC 0), .c .nil]), (2, 42, [.c .nil, .c .nil, .c .nil, .c .nil])], [(110, 133, 1, ((recRows hd (bk.entries.take k)).map fun r => [ints r])), (103, 72, 1, (t0.a.kept.map fun r => [ints r])), (104, 204, 2, (t0.a.wait.map fun x => [iC x.1, ints x.2])), (105, 72, 1, (t0.b.kept.map fun r => [ints r])), (106, 204, 2, (t0.b.wait.map fun x => [iC x.1, ints x.2])), (107, 148, 3, (hd.seen.map markC)), (108, 100, 9, (bk.entries.map entryC))], []⟩ : St)) (fun k => k ≤ bk.entries.length) (fun k => bk.entries.length - k) 0 [(103, 22), (104, 1022), (105, 2022), (106, 3022), (107, 25), (108, 35)] (by simp) ⟨by (repeat first | exact trivial | refine ⟨rfl, ?_⟩), by (repeat first | exact trivial | refine ⟨rfl, ?_⟩), ⟨⟨_, rfl, by simp [recRows, recRow0, List.map_set]⟩, ⟨_, rfl, by rfl⟩, ⟨_, rfl, by rfl⟩, ⟨_, rfl, by rfl⟩, ⟨_, rfl, by rfl⟩, ⟨_, rfl, by rfl⟩, ⟨_, rfl, by rfl⟩, trivial⟩, by (repeat first | exact trivial | refine ⟨⟨_, rfl, rfl⟩, ?_⟩), rfl⟩ ?_)))))
     intro k hp
     have p0 := hp
     show Ev _ _ _ _ (⟨[(46, iV k), (44, .p false [.rt 108]), (45, iV bk.entries.length), (10, .p false [.pr 110 1 0 0]), (6, pbV 6 0), (7, pbV 7 0), (9, pbV 9 0), (2, pbV 2 0), (3, pbV 3 0), (4, pbV 4 0)], [(6, 42, [.rt 103, .rt 104, .rt 105, .rt 106]), (9, 48, [.c (iC bk.base), .c (iC bk.time), .rt 108]), (7, 45, [.c (iC hd.num), .c (iC hd.base), .c (iC hd.time), .rt 107]), (4, 48, [.c (iC 0), .c (iC 0), .c .nil]), (3, 45, [.c (iC 0), .c (iC 0), .c (iC 0), .c .nil]), (2, 42, [.c .nil, .c .nil, .c .nil, .c .nil])], [(110, 133, 1, ((recRows hd (bk.entries.take k)).map fun r => [ints r])), (103, 72, 1, (t0.a.kept.map fun r => [ints r])), (104, 204, 2, (t0.a.wait.map fun x => [iC x.1, ints x.2])), (105, 72, 1, (t0.b.kept.map fun r => [ints r])), (106, 204, 2, (t0.b.wait.map fun x => [iC x.1, ints x.2])), (107, 148, 3, (hd.seen.map markC)), (108, 100, 9, (bk.entries.map entryC))], []⟩ : St)
     refine sq (rg (xb ttOk rfl rfl (nl (et (sq (ev_cond rfl (fun h3 => ?_) (fun h3 => ?_)))))))
     · try have d3 := of_decide_eq_true h3
       refine ev_skip (et (sq (ev_blk (sq ?_))))
       have hkl : k < bk.entries.length := by omega
       have heo := ents_ok hbd.2.2.2.2 _ (List.getElem_mem hkl)
       have hix := entry_ix heo
       have hsl : 2 ≤ slotF bk.entries[k].index ∧ slotF bk.entries[k].index ≤ 21 := by unfold slotF; omega
       have hrl := recRows_len hd (bk.entries.take k)
       refine rg (xo (q_ix_rt (m := k) ttOk rfl rfl rfl rfl rfl rfl (by simp; omega)) rfl ?_)
       first | refine xo (q_load_pr ttOk rfl rfl rfl rfl (get_map (by omega)) rfl rfl) rfl ?_ | refine xl ttOk rfl rfl ?_
       refine evl_e (e_alloc ttOk rfl rfl rfl rfl) (xst ttOk rfl rfl (nl (et (ev_drawq [6] mo (rdk_take 0 rfl (by kernel_rfl) trivial (q_fieldAddr ttOk rfl) rfl ?_)))))
       first | refine rdk_take 1 rfl (by kernel_rfl) trivial (q_load_pr ttOk rfl rfl rfl rfl (get_map (by omega)) rfl rfl) rfl ?_ | refine rdk_take 1 rfl (by kernel_rfl) trivial (q_load ttOk rfl) rfl ?_
       first | refine rdk_take 3 rfl (by kernel_rfl) trivial (q_load_pr ttOk rfl rfl rfl rfl (get_map (by omega)) rfl rfl) rfl ?_ | refine rdk_take 3 rfl (by kernel_rfl) trivial (q_load ttOk rfl) rfl ?_
       refine rdk_one 2 (by kernel_rfl) (rdo_call (nm := 52) rfl trivial (cf rfl) (c_slotOf (bk.entries[k]'(by omega)).index (by omega)) (rs_of rfl) rfl rfl rfl (rdk_one 4 (by kernel_rfl) (rdo_call (nm := 54) rfl trivial (cf rfl) (c_SlotRow' (bk.entries[k]'(by omega)) heo) (rs_of rfl) rfl rfl rfl (rdk_take 5 rfl (by kernel_rfl) trivial (q_ix_arrp (slotF (bk.entries[k]'(by omega)).index).toNat ttOk rfl rfl rfl (by omega) (by omega)) rfl (rdk_one 6 (by kernel_rfl) (rdo_brk rfl rfl trivial (e_st_pr ttOk rfl rfl rfl rfl rfl rfl rfl (get_map (by omega)) rfl rfl rfl rfl rfl) (rdb_endq (by kernel_rfl) (eb (et (rg (xa rfl rfl rfl (by omega) rfl (xm rfl rfl (nl (eve_round (k + 1) [] ?hp ⟨by (repeat first | exact trivial | refine ⟨rfl, ?_⟩), by (repeat first | exact trivial | refine ⟨rfl, ?_⟩), ⟨⟨_, rfl, by rw [← recRows_next (by omega)]; simp [setE, List.map_set]⟩, ⟨_, rfl, by rfl⟩, ⟨_, rfl, by rfl⟩, ⟨_, rfl, by rfl⟩, ⟨_, rfl, by rfl⟩, ⟨_, rfl, by rfl⟩, ⟨_, rfl, by rfl⟩, trivial⟩, by (repeat first | exact trivial | refine ⟨⟨_, rfl, rfl⟩, ?_⟩), rfl⟩))))))))))))))
       case hp => exact ⟨by omega, by omega⟩
     · try have d3 := of_decide_eq_false h3
       refine ev_exit (evx_then (evx_then (evx_hit (et (sq (sq (rg (xo (q_load_arrp (m := 22) ttOk rfl rfl rfl (by rw [List.length_map, recRows_len]) rfl rfl) rfl (xm rfl rfl (nl (et (ev_blk (ev_loop (fun j : Nat => (⟨[(58, iV j), (57, .p true (subsF 110 0 22)), (6, pbV 6 0), (7, pbV 7 0), (9, pbV 9 0), (2, pbV 2 0), (3, pbV 3 0), (4, pbV 4 0)], [(6, 42, [.rt 103, .rt 104, .rt 105, .rt 106]), (9, 48, [.c (iC bk.base), .c (iC bk.time), .rt 108]), (7, 45, [.c (iC hd.num), .c (iC hd.base), .c (iC hd.time), .rt 107]), (4, 48, [.c (iC 0), .c (iC 0), .c .nil]), (3, 45, [.c (iC 0), .c (iC 0), .c (iC 0), .c .nil]), (2, 42, [.c .nil, .c .nil, .c .nil, .c .nil])], [(110, 133, 1, (RR.map fun r => [ints r])), (103, 72, 1, ((mendUp RR t0 j).a.kept.map fun r => [ints r])), (104, 204, 2, ((mendUp RR t0 j).a.wait.map fun x => [iC x.1, ints x.2])), (105, 72, 1, ((mendUp RR t0 j).b.kept.map fun r => [ints r])), (106, 204, 2, ((mendUp RR t0 j).b.wait.map fun x => [iC x.1, ints x.2])), (107, 148, 3, (hd.seen.map markC)), (108, 100, 9, (bk.entries.map entryC))], []⟩ : St)) (fun j => j ≤ 22) (fun j => 22 - j) 0 [] (by simp) ⟨by (repeat first | exact trivial | refine ⟨rfl, ?_⟩), by (repeat first | exact trivial | refine ⟨rfl, ?_⟩), ⟨⟨_, rfl, by rw [hRR, List.take_of_length_le (by omega)]⟩, ⟨_, rfl, by rfl⟩, ⟨_, rfl, by rfl⟩, ⟨_, rfl, by rfl⟩, ⟨_, rfl, by rfl⟩, ⟨_, rfl, by rfl⟩, ⟨_, rfl, by rfl⟩, trivial⟩, by (repeat first | exact trivial | refine ⟨⟨_, rfl, rfl⟩, ?_⟩), rfl⟩ ?_)))))))))))))
       intro j hp
       have q0 := hp
       show Ev _ _ _ _ (⟨[(58, iV j), (57, .p true (subsF 110 0 22)), (6, pbV 6 0), (7, pbV 7 0), (9, pbV 9 0), (2, pbV 2 0), (3, pbV 3 0), (4, pbV 4 0)], [(6, 42, [.rt 103, .rt 104, .rt 105, .rt 106]), (9, 48, [.c (iC bk.base), .c (iC bk.time), .rt 108]), (7, 45, [.c (iC hd.num), .c (iC hd.base), .c (iC hd.time), .rt 107]), (4, 48, [.c (iC 0), .c (iC 0), .c .nil]), (3, 45, [.c (iC 0), .c (iC 0), .c (iC 0), .c .nil]), (2, 42, [.c .nil, .c .nil, .c .nil, .c .nil])], [(110, 133, 1, (RR.map fun r => [ints r])), (103, 72, 1, ((mendUp RR t0 j).a.kept.map fun r => [ints r])), (104, 204, 2, ((mendUp RR t0 j).a.wait.map fun x => [iC x.1, ints x.2])), (105, 72, 1, ((mendUp RR t0 j).b.kept.map fun r => [ints r])), (106, 204, 2, ((mendUp RR t0 j).b.wait.map fun x => [iC x.1, ints x.2])), (107, 148, 3, (hd.seen.map markC)), (108, 100, 9, (bk.entries.map entryC))], []⟩ : St)
       refine sq (rg (xb ttOk rfl rfl (nl (et (sq (ev_cond rfl (fun h4 => ?_) (fun h4 => ?_)))))))
       · try have d4 := of_decide_eq_true h4
         refine ev_skip (et (sq (ev_blk (sq (rg (xm rfl rfl (xo (q_index_sub j ttOk rfl rfl rfl rfl rfl (by omega)) rfl (xs rfl rfl (xs rfl rfl (nl (et (rg ?_))))))))))))
         first | refine xo (q_load_pr ttOk rfl rfl rfl rfl (get_map (by omega)) rfl rfl) rfl ?_ | refine xl ttOk rfl rfl ?_
         refine xm rfl rfl (xm rfl rfl (evl_call (nm := 65) (cf rfl) (c_MendedAt' (mendUp RR t0 j) j (RR[j]'(by omega))) (rs_c3 rfl rfl rfl rfl rfl (get_map (by omega)) rfl) rfl rfl rfl (xst ttOk rfl rfl (nl (eb (et (rg (xa rfl rfl rfl (by omega) rfl (xm rfl rfl (nl (eve_round (j + 1) [(103, 65), (104, 1065), (105, 2065), (106, 3065)] ?hp ⟨by (repeat first | exact trivial | refine ⟨rfl, ?_⟩), by (repeat first | exact trivial | refine ⟨rfl, ?_⟩), ⟨⟨_, rfl, by rfl⟩, ⟨_, rfl, by rw [← mend_next (by omega)]⟩, ⟨_, rfl, by rw [← mend_next (by omega)]⟩, ⟨_, rfl, by rw [← mend_next (by omega)]⟩, ⟨_, rfl, by rw [← mend_next (by omega)]⟩, ⟨_, rfl, by rfl⟩, ⟨_, rfl, by rfl⟩, trivial⟩, by (repeat first | exact trivial | refine ⟨⟨_, rfl, rfl⟩, ?_⟩), rfl⟩)))))))))))
         case hp => exact ⟨by omega, by omega⟩
       · try have d4 := of_decide_eq_false h4
         refine ev_exit (evx_then (evx_then (evx_hit (et (sq ?_)))))
         refine' ev_drawhJ mo ?hdr1 ?kdr1
         case hdr1 =>
           refine rdh_3 0 1 2 (by kernel_rfl) ?_ ?_ ?_
           · first | refine rdho_q rfl trivial (q_load_pr ttOk rfl rfl rfl rfl (get_map (by omega)) rfl rfl) rfl ?_ | refine rdho_q rfl trivial (q_load ttOk rfl) rfl ?_
             refine rdh_3 1 2 3 (by kernel_rfl) ?_ ?_ ?_
             · first | refine rdho_q rfl trivial (q_load_pr ttOk rfl rfl rfl rfl (get_map (by omega)) rfl rfl) rfl ?_ | refine rdho_q rfl trivial (q_load ttOk rfl) rfl ?_
               refine rdh_2 2 3 (by kernel_rfl) ?_ ?_
               · first | refine rdho_q rfl trivial (q_load_pr ttOk rfl rfl rfl rfl (get_map (by omega)) rfl rfl) rfl ?_ | refine rdho_q rfl trivial (q_load ttOk rfl) rfl ?_
                 refine rdh_1 3 (by kernel_rfl) (rdho_eff rfl trivial (e_store ttOk rfl) (rdh_1 4 (by kernel_rfl) (rdho_eff rfl trivial (e_store ttOk rfl) (rdh_1 5 (by kernel_rfl) (rdho_eff rfl trivial (e_store ttOk rfl) (rdh_take 6 rfl (by kernel_rfl) trivial (QuietW.h (qw_assign rfl)) rfl ?_))))))
                 exact rdh_fin (by kernel_rfl)
               · refine rdho_eff rfl trivial (e_store ttOk rfl) (rdh_2 2 4 (by kernel_rfl) ?_ ?_)
                 · first | refine rdho_q rfl trivial (q_load_pr ttOk rfl rfl rfl rfl (get_map (by omega)) rfl rfl) rfl ?_ | refine rdho_q rfl trivial (q_load ttOk rfl) rfl ?_
                   refine rdh_1 4 (by kernel_rfl) (rdho_eff rfl trivial (e_store ttOk rfl) (rdh_1 5 (by kernel_rfl) (rdho_eff rfl trivial (e_store ttOk rfl) (rdh_take 6 rfl (by kernel_rfl) trivial (QuietW.h (qw_assign rfl)) rfl ?_))))
                   exact rdh_le [] (by kernel_rfl) ⟨by (repeat first | exact trivial | refine ⟨rfl, ?_⟩), by (repeat first | exact trivial | refine ⟨rfl, ?_⟩), by (repeat first | exact trivial | refine ⟨⟨_, rfl, rfl⟩, ?_⟩), by (repeat first | exact trivial | refine ⟨⟨_, rfl, rfl⟩, ?_⟩), rfl⟩
                 · refine rdho_eff rfl trivial (e_store ttOk rfl) (rdh_1 2 (by kernel_rfl) ?_)
                   first | refine rdho_q rfl trivial (q_load_pr ttOk rfl rfl rfl rfl (get_map (by omega)) rfl rfl) rfl ?_ | refine rdho_q rfl trivial (q_load ttOk rfl) rfl ?_
                   refine rdh_1 5 (by kernel_rfl) (rdho_eff rfl trivial (e_store ttOk rfl) (rdh_take 6 rfl (by kernel_rfl) trivial (QuietW.h (qw_assign rfl)) rfl ?_))
                   exact rdh_le [] (by kernel_rfl) ⟨by (repeat first | exact trivial | refine ⟨rfl, ?_⟩), by (repeat first | exact trivial | refine ⟨rfl, ?_⟩), by (repeat first | exact trivial | refine ⟨⟨_, rfl, rfl⟩, ?_⟩), by (repeat first | exact trivial | refine ⟨⟨_, rfl, rfl⟩, ?_⟩), rfl⟩
             · first | refine rdho_q rfl trivial (q_load_pr ttOk rfl rfl rfl rfl (get_map (by omega)) rfl rfl) rfl ?_ | refine rdho_q rfl trivial (q_load ttOk rfl) rfl ?_
               refine rdh_2 1 3 (by kernel_rfl) ?_ ?_
               · first | refine rdho_q rfl trivial (q_load_pr ttOk rfl rfl rfl rfl (get_map (by omega)) rfl rfl) rfl ?_ | refine rdho_q rfl trivial (q_load ttOk rfl) rfl ?_
                 refine rdh_1 3 (by kernel_rfl) (rdho_eff rfl trivial (e_store ttOk rfl) (rdh_1 4 (by kernel_rfl) (rdho_eff rfl trivial (e_store ttOk rfl) (rdh_1 5 (by kernel_rfl) (rdho_eff rfl trivial (e_store ttOk rfl) (rdh_take 6 rfl (by kernel_rfl) trivial (QuietW.h (qw_assign rfl)) rfl ?_))))))
                 exact rdh_le [] (by kernel_rfl) ⟨by (repeat first | exact trivial | refine ⟨rfl, ?_⟩), by (repeat first | exact trivial | refine ⟨rfl, ?_⟩), by (repeat first | exact trivial | refine ⟨⟨_, rfl, rfl⟩, ?_⟩), by (repeat first | exact trivial | refine ⟨⟨_, rfl, rfl⟩, ?_⟩), rfl⟩
               · refine rdho_eff rfl trivial (e_store ttOk rfl) (rdh_1 1 (by kernel_rfl) ?_)
                 first | refine rdho_q rfl trivial (q_load_pr ttOk rfl rfl rfl rfl (get_map (by omega)) rfl rfl) rfl ?_ | refine rdho_q rfl trivial (q_load ttOk rfl) rfl ?_
                 refine rdh_1 4 (by kernel_rfl) (rdho_eff rfl trivial (e_store ttOk rfl) (rdh_1 5 (by kernel_rfl) (rdho_eff rfl trivial (e_store ttOk rfl) (rdh_take 6 rfl (by kernel_rfl) trivial (QuietW.h (qw_assign rfl)) rfl ?_))))
                 exact rdh_le [] (by kernel_rfl) ⟨by (repeat first | exact trivial | refine ⟨rfl, ?_⟩), by (repeat first | exact trivial | refine ⟨rfl, ?_⟩), by (repeat first | exact trivial | refine ⟨⟨_, rfl, rfl⟩, ?_⟩), by (repeat first | exact trivial | refine ⟨⟨_, rfl, rfl⟩, ?_⟩), rfl⟩
             · refine rdho_eff rfl trivial (e_store ttOk rfl) (rdh_2 1 2 (by kernel_rfl) ?_ ?_)
               · first | refine rdho_q rfl trivial (q_load_pr ttOk rfl rfl rfl rfl (get_map (by omega)) rfl rfl) rfl ?_ | refine rdho_q rfl trivial (q_load ttOk rfl) rfl ?_
                 refine rdh_2 2 4 (by kernel_rfl) ?_ ?_
                 · first | refine rdho_q rfl trivial (q_load_pr ttOk rfl rfl rfl rfl (get_map (by omega)) rfl rfl) rfl ?_ | refine rdho_q rfl trivial (q_load ttOk rfl) rfl ?_
                   refine rdh_1 4 (by kernel_rfl) (rdho_eff rfl trivial (e_store ttOk rfl) (rdh_1 5 (by kernel_rfl) (rdho_eff rfl trivial (e_store ttOk rfl) (rdh_take 6 rfl (by kernel_rfl) trivial (QuietW.h (qw_assign rfl)) rfl ?_))))
                   exact rdh_le [] (by kernel_rfl) ⟨by (repeat first | exact trivial | refine ⟨rfl, ?_⟩), by (repeat first | exact trivial | refine ⟨rfl, ?_⟩), by (repeat first | exact trivial | refine ⟨⟨_, rfl, rfl⟩, ?_⟩), by (repeat first | exact trivial | refine ⟨⟨_, rfl, rfl⟩, ?_⟩), rfl⟩
                 · refine rdho_eff rfl trivial (e_store ttOk rfl) (rdh_1 2 (by kernel_rfl) ?_)
                   first | refine rdho_q rfl trivial (q_load_pr ttOk rfl rfl rfl rfl (get_map (by omega)) rfl rfl) rfl ?_ | refine rdho_q rfl trivial (q_load ttOk rfl) rfl ?_
                   refine rdh_1 5 (by kernel_rfl) (rdho_eff rfl trivial (e_store ttOk rfl) (rdh_take 6 rfl (by kernel_rfl) trivial (QuietW.h (qw_assign rfl)) rfl ?_))
                   exact rdh_le [] (by kernel_rfl) ⟨by (repeat first | exact trivial | refine ⟨rfl, ?_⟩), by (repeat first | exact trivial | refine ⟨rfl, ?_⟩), by (repeat first | exact trivial | refine ⟨⟨_, rfl, rfl⟩, ?_⟩), by (repeat first | exact trivial | refine ⟨⟨_, rfl, rfl⟩, ?_⟩), rfl⟩
               · first | refine rdho_q rfl trivial (q_load_pr ttOk rfl rfl rfl rfl (get_map (by omega)) rfl rfl) rfl ?_ | refine rdho_q rfl trivial (q_load ttOk rfl) rfl ?_
                 refine rdh_1 1 (by kernel_rfl) ?_
                 first | refine rdho_q rfl trivial (q_load_pr ttOk rfl rfl rfl rfl (get_map (by omega)) rfl rfl) rfl ?_ | refine rdho_q rfl trivial (q_load ttOk rfl) rfl ?_
                 refine rdh_1 4 (by kernel_rfl) (rdho_eff rfl trivial (e_store ttOk rfl) (rdh_1 5 (by kernel_rfl) (rdho_eff rfl trivial (e_store ttOk rfl) (rdh_take 6 rfl (by kernel_rfl) trivial (QuietW.h (qw_assign rfl)) rfl ?_))))
                 exact rdh_le [] (by kernel_rfl) ⟨by (repeat first | exact trivial | refine ⟨rfl, ?_⟩), by (repeat first | exact trivial | refine ⟨rfl, ?_⟩), by (repeat first | exact trivial | refine ⟨⟨_, rfl, rfl⟩, ?_⟩), by (repeat first | exact trivial | refine ⟨⟨_, rfl, rfl⟩, ?_⟩), rfl⟩
           · first | refine rdho_q rfl trivial (q_load_pr ttOk rfl rfl rfl rfl (get_map (by omega)) rfl rfl) rfl ?_ | refine rdho_q rfl trivial (q_load ttOk rfl) rfl ?_
             refine rdh_2 0 2 (by kernel_rfl) ?_ ?_
             · first | refine rdho_q rfl trivial (q_load_pr ttOk rfl rfl rfl rfl (get_map (by omega)) rfl rfl) rfl ?_ | refine rdho_q rfl trivial (q_load ttOk rfl) rfl ?_
               refine rdh_2 2 3 (by kernel_rfl) ?_ ?_
               · first | refine rdho_q rfl trivial (q_load_pr ttOk rfl rfl rfl rfl (get_map (by omega)) rfl rfl) rfl ?_ | refine rdho_q rfl trivial (q_load ttOk rfl) rfl ?_
                 refine rdh_1 3 (by kernel_rfl) (rdho_eff rfl trivial (e_store ttOk rfl) (rdh_1 4 (by kernel_rfl) (rdho_eff rfl trivial (e_store ttOk rfl) (rdh_1 5 (by kernel_rfl) (rdho_eff rfl trivial (e_store ttOk rfl) (rdh_take 6 rfl (by kernel_rfl) trivial (QuietW.h (qw_assign rfl)) rfl ?_))))))
                 exact rdh_le [] (by kernel_rfl) ⟨by (repeat first | exact trivial | refine ⟨rfl, ?_⟩), by (repeat first | exact trivial | refine ⟨rfl, ?_⟩), by (repeat first | exact trivial | refine ⟨⟨_, rfl, rfl⟩, ?_⟩), by (repeat first | exact trivial | refine ⟨⟨_, rfl, rfl⟩, ?_⟩), rfl⟩
               · refine rdho_eff rfl trivial (e_store ttOk rfl) (rdh_2 2 4 (by kernel_rfl) ?_ ?_)
                 · first | refine rdho_q rfl trivial (q_load_pr ttOk rfl rfl rfl rfl (get_map (by omega)) rfl rfl) rfl ?_ | refine rdho_q rfl trivial (q_load ttOk rfl) rfl ?_
                   refine rdh_1 4 (by kernel_rfl) (rdho_eff rfl trivial (e_store ttOk rfl) (rdh_1 5 (by kernel_rfl) (rdho_eff rfl trivial (e_store ttOk rfl) (rdh_take 6 rfl (by kernel_rfl) trivial (QuietW.h (qw_assign rfl)) rfl ?_))))
                   exact rdh_le [] (by kernel_rfl) ⟨by (repeat first | exact trivial | refine ⟨rfl, ?_⟩), by (repeat first | exact trivial | refine ⟨rfl, ?_⟩), by (repeat first | exact trivial | refine ⟨⟨_, rfl, rfl⟩, ?_⟩), by (repeat first | exact trivial | refine ⟨⟨_, rfl, rfl⟩, ?_⟩), rfl⟩
                 · refine rdho_eff rfl trivial (e_store ttOk rfl) (rdh_1 2 (by kernel_rfl) ?_)
                   first | refine rdho_q rfl trivial (q_load_pr ttOk rfl rfl rfl rfl (get_map (by omega)) rfl rfl) rfl ?_ | refine rdho_q rfl trivial (q_load ttOk rfl) rfl ?_
                   refine rdh_1 5 (by kernel_rfl) (rdho_eff rfl trivial (e_store ttOk rfl) (rdh_take 6 rfl (by kernel_rfl) trivial (QuietW.h (qw_assign rfl)) rfl ?_))
                   exact rdh_le [] (by kernel_rfl) ⟨by (repeat first | exact trivial | refine ⟨rfl, ?_⟩), by (repeat first | exact trivial | refine ⟨rfl, ?_⟩), by (repeat first | exact trivial | refine ⟨⟨_, rfl, rfl⟩, ?_⟩), by (repeat first | exact trivial | refine ⟨⟨_, rfl, rfl⟩, ?_⟩), rfl⟩
             · first | refine rdho_q rfl trivial (q_load_pr ttOk rfl rfl rfl rfl (get_map (by omega)) rfl rfl) rfl ?_ | refine rdho_q rfl trivial (q_load ttOk rfl) rfl ?_
               refine rdh_1 0 (by kernel_rfl) ?_
               first | refine rdho_q rfl trivial (q_load_pr ttOk rfl rfl rfl rfl (get_map (by omega)) rfl rfl) rfl ?_ | refine rdho_q rfl trivial (q_load ttOk rfl) rfl ?_
               refine rdh_1 3 (by kernel_rfl) (rdho_eff rfl trivial (e_store ttOk rfl) (rdh_1 4 (by kernel_rfl) (rdho_eff rfl trivial (e_store ttOk rfl) (rdh_1 5 (by kernel_rfl) (rdho_eff rfl trivial (e_store ttOk rfl) (rdh_take 6 rfl (by kernel_rfl) trivial (QuietW.h (qw_assign rfl)) rfl ?_))))))
               exact rdh_le [] (by kernel_rfl) ⟨by (repeat first | exact trivial | refine ⟨rfl, ?_⟩), by (repeat first | exact trivial | refine ⟨rfl, ?_⟩), by (repeat first | exact trivial | refine ⟨⟨_, rfl, rfl⟩, ?_⟩), by (repeat first | exact trivial | refine ⟨⟨_, rfl, rfl⟩, ?_⟩), rfl⟩
           · first | refine rdho_q rfl trivial (q_load_pr ttOk rfl rfl rfl rfl (get_map (by omega)) rfl rfl) rfl ?_ | refine rdho_q rfl trivial (q_load ttOk rfl) rfl ?_
             refine rdh_2 0 1 (by kernel_rfl) ?_ ?_
             · first | refine rdho_q rfl trivial (q_load_pr ttOk rfl rfl rfl rfl (get_map (by omega)) rfl rfl) rfl ?_ | refine rdho_q rfl trivial (q_load ttOk rfl) rfl ?_
               refine rdh_2 1 3 (by kernel_rfl) ?_ ?_
               · first | refine rdho_q rfl trivial (q_load_pr ttOk rfl rfl rfl rfl (get_map (by omega)) rfl rfl) rfl ?_ | refine rdho_q rfl trivial (q_load ttOk rfl) rfl ?_
                 refine rdh_1 3 (by kernel_rfl) (rdho_eff rfl trivial (e_store ttOk rfl) (rdh_1 4 (by kernel_rfl) (rdho_eff rfl trivial (e_store ttOk rfl) (rdh_1 5 (by kernel_rfl) (rdho_eff rfl trivial (e_store ttOk rfl) (rdh_take 6 rfl (by kernel_rfl) trivial (QuietW.h (qw_assign rfl)) rfl ?_))))))
                 exact rdh_le [] (by kernel_rfl) ⟨by (repeat first | exact trivial | refine ⟨rfl, ?_⟩), by (repeat first | exact trivial | refine ⟨rfl, ?_⟩), by (repeat first | exact trivial | refine ⟨⟨_, rfl, rfl⟩, ?_⟩), by (repeat first | exact trivial | refine ⟨⟨_, rfl, rfl⟩, ?_⟩), rfl⟩
               · refine rdho_eff rfl trivial (e_store ttOk rfl) (rdh_1 1 (by kernel_rfl) ?_)
                 first | refine rdho_q rfl trivial (q_load_pr ttOk rfl rfl rfl rfl (get_map (by omega)) rfl rfl) rfl ?_ | refine rdho_q rfl trivial (q_load ttOk rfl) rfl ?_
                 refine rdh_1 4 (by kernel_rfl) (rdho_eff rfl trivial (e_store ttOk rfl) (rdh_1 5 (by kernel_rfl) (rdho_eff rfl trivial (e_store ttOk rfl) (rdh_take 6 rfl (by kernel_rfl) trivial (QuietW.h (qw_assign rfl)) rfl ?_))))
                 exact rdh_le [] (by kernel_rfl) ⟨by (repeat first | exact trivial | refine ⟨rfl, ?_⟩), by (repeat first | exact trivial | refine ⟨rfl, ?_⟩), by (repeat first | exact trivial | refine ⟨⟨_, rfl, rfl⟩, ?_⟩), by (repeat first | exact trivial | refine ⟨⟨_, rfl, rfl⟩, ?_⟩), rfl⟩
             · first | refine rdho_q rfl trivial (q_load_pr ttOk rfl rfl rfl rfl (get_map (by omega)) rfl rfl) rfl ?_ | refine rdho_q rfl trivial (q_load ttOk rfl) rfl ?_
               refine rdh_1 0 (by kernel_rfl) ?_
               first | refine rdho_q rfl trivial (q_load_pr ttOk rfl rfl rfl rfl (get_map (by omega)) rfl rfl) rfl ?_ | refine rdho_q rfl trivial (q_load ttOk rfl) rfl ?_
               refine rdh_1 3 (by kernel_rfl) (rdho_eff rfl trivial (e_store ttOk rfl) (rdh_1 4 (by kernel_rfl) (rdho_eff rfl trivial (e_store ttOk rfl) (rdh_1 5 (by kernel_rfl) (rdho_eff rfl trivial (e_store ttOk rfl) (rdh_take 6 rfl (by kernel_rfl) trivial (QuietW.h (qw_assign rfl)) rfl ?_))))))
               exact rdh_le [] (by kernel_rfl) ⟨by (repeat first | exact trivial | refine ⟨rfl, ?_⟩), by (repeat first | exact trivial | refine ⟨rfl, ?_⟩), by (repeat first | exact trivial | refine ⟨⟨_, rfl, rfl⟩, ?_⟩), by (repeat first | exact trivial | refine ⟨⟨_, rfl, rfl⟩, ?_⟩), rfl⟩
         refine et (ev_ret (ret_pureN ttOk rfl rfl ?_))
         first
         | (rw [rec_no (by assumption)]; simp [RpLe, L2, RcLe, zeroD, zeroT, noHead]; done)
         | (rw [rec_no (headIn_not (by assumption))]; simp [RpLe, L2, RcLe, zeroD, zeroT, noHead]; done)
         | (obtain rfl : j = 22 := by omega
            rw [rec_yes (by assumption), ← hhd, ← hbk, ← ht0, ← hRR]; simp [RpLe, L2, RcLe]; done)

end Go.Proofs.YtphaggopgdbojaaGreat
