/- Walks of functions of the program, printed by a program of the prover. -/
import Derived.Test.YtpbhcdgdabfhfaaGreatLoF33
namespace Go.Proofs.YtpbhcdgdabfhfaaGreat
open Go.ChangeShapes Go.WideShapes Go.ChangeAt Go.RowKit
set_option linter.unusedVariables false
set_option linter.unusedSimpArgs false
set_option maxHeartbeats 1000000
set_option maxRecDepth 100000
attribute [local irreducible] EvL Ev EvE Quiet Eff Pure RDk RDb RDo
theorem ins_len {l : List Mark} {m : Mark} : (insF l m).length ≤ l.length + 1 := by
  induction l with
  | nil => simp [insF]
  | cons a l ih =>
    simp only [insF, List.length_append, List.length_cons, List.filter_cons] at ih ⊢
    by_cases h1 : a.client < m.client
    · have h2 : ¬ m.client < a.client := by omega
      simp only [h1, h2, decide_true, decide_false, if_true, List.length_cons]
      simp
      omega
    · by_cases h2 : m.client < a.client
      · simp only [h1, h2, decide_true, decide_false, if_true, List.length_cons]
        simp
        omega
      · simp only [h1, h2, decide_false]
        simp
        omega
theorem mkInv_len {l : List Mark} {m : Mark} {k : Nat} {o : List Mark} {dn : Bool} (h : mkInv l m k o dn) : o.length ≤ k + 1 := by
  cases dn
  · rw [h.1, List.length_take]; omega
  · rw [h.1]
    have := ins_len (l := l.take k) (m := m)
    rw [List.length_take] at this
    omega
def freshIn (l : List Mark) (c s : Int) : Bool := seenOk l && (askerOk c && (seqOk s && decide (s > (findM l c).seq)))
theorem mk_no0 {l : List Mark} {e : Entry} (h : seenOk l = false) : markedF l e = ([], false) := by simp [markedF, h]
theorem mk_no {l : List Mark} {e : Entry} (h : seenOk l = true) (hf : freshF l e = false) : markedF l e = (l, false) := by simp [markedF, h, hf]
theorem mk_yes {l : List Mark} {e : Entry} (h : seenOk l = true) (hf : freshF l e = true) : markedF l e = (insF l (eMark e), true) := by simp [markedF, h, hf]
theorem fresh_no1 {l : List Mark} {e : Entry} (h : entryOk e = false) : freshF l e = false := by simp [freshF, h]
theorem fresh_no2 {l : List Mark} {e : Entry} (hs : seenOk l = true) (h0 : entryOk e = true) (h : freshIn l e.client e.seq = false) : freshF l e = false := by
  have h1 := h0
  simp only [entryOk, Bool.and_eq_true] at h1
  simp only [freshIn, hs, h1.2.2.1, h1.2.2.2.1, Bool.true_and, decide_eq_false_iff_not] at h
  simp only [freshF, h0, Bool.true_and, Bool.and_eq_false_iff, decide_eq_false_iff_not]
  exact .inl (by omega)
theorem fresh_no3 {l : List Mark} {e : Entry} (h : e.index ≤ lastF l) : freshF l e = false := by
  have : ¬ lastF l < e.index := by omega
  simp [freshF, this]
theorem fresh_no4 {l : List Mark} {e : Entry} (h : e.seq ≤ (findM l e.client).seq) : freshF l e = false := by
  have : ¬ (findM l e.client).seq < e.seq := by omega
  simp [freshF, this]
theorem fresh_yes {l : List Mark} {e : Entry} (h1 : entryOk e = true) (h2 : freshIn l e.client e.seq = true) (h3 : ¬ e.index ≤ lastF l) : freshF l e = true := by
  simp only [freshIn, Bool.and_eq_true, decide_eq_true_eq] at h2
  have h4 : lastF l < e.index := by omega
  have h5 : (findM l e.client).seq < e.seq := by omega
  simp [freshF, h1, h4, h5]
theorem fresh_yes2 {l : List Mark} {e : Entry} (h1 : entryOk e = true) (h2 : ¬ e.seq ≤ (findM l e.client).seq) (h3 : ¬ e.index ≤ lastF l) : freshF l e = true := by
  have h4 : lastF l < e.index := by omega
  have h5 : (findM l e.client).seq < e.seq := by omega
  simp [freshF, h1, h4, h5]
theorem marked_snd {l : List Mark} {e : Entry} (h : seenOk l = true) : (markedF l e).2 = freshF l e := by
  cases hf : freshF l e
  · rw [mk_no h hf]
  · rw [mk_yes h hf]
theorem over_marked {l c : List Mark} {es : List Entry} {k : Nat} (hs : SOk l) (hk : k < es.length) (h : overL l (es.take k) = some c) (h2 : (markedF c es[k]).2 = true) : overL l (es.take (k + 1)) = some (markedF c es[k]).1 := by
  have hc := of_sok (over_sok hs h)
  have hf : freshF c es[k] = true := by rw [← marked_snd hc]; exact h2
  rw [over_yes hk h hf, mk_yes hc hf]
theorem over_stop {l c : List Mark} {es : List Entry} {k : Nat} (hs : SOk l) (hk : k < es.length) (h : overL l (es.take k) = some c) (h2 : (markedF c es[k]).2 = false) : overL l es = none :=
  over_no hk h (by rw [← marked_snd (of_sok (over_sok hs h))]; exact h2)
def markV (m : Mark) : Value := .agg #[.int .i64 m.client, .int .i64 m.seq, .int .i64 m.index]
def mapF (c : List Mark) : Int → Option Value := fun q => (c.find? fun x => decide (x.client = q)).map markV
theorem mapA_next {l : List Mark} (hs : SOk l) {k : Nat} (hk : k < l.length) (q : Int) : mapF (l.take (k + 1)) q = if q = l[k].client then some (mkV true [.int .i64 l[k].client, .int .i64 l[k].seq, .int .i64 l[k].index]) else mapF (l.take k) q := by
  unfold mapF
  rw [List.take_succ_eq_append_getElem hk, List.find?_append]
  by_cases h : q = l[k].client
  · rw [if_pos h]
    have : (l.take k).find? (fun x => decide (x.client = q)) = none := List.find?_eq_none.2 fun x hx => by
      obtain ⟨j, hj, rfl⟩ := List.mem_iff_getElem.1 hx
      rw [List.getElem_take]
      have hj2 : j < k := by rw [List.length_take] at hj; omega
      have := List.pairwise_iff_getElem.1 hs.srt j k (by omega) hk hj2
      simp only [decide_eq_true_eq]
      omega
    rw [this, List.find?_cons_of_pos (by simpa using h.symm)]
    rfl
  · rw [if_neg h, List.find?_cons_of_neg (by simpa using fun e : l[k].client = q => h e.symm)]
    simp
theorem mapB_next (c : List Mark) (e : Entry) (q : Int) : mapF (insF c (eMark e)) q = if q = e.client then some (mkV true [.int .i64 e.client, .int .i64 e.seq, .int .i64 e.index]) else if q = e.client then none else mapF c q := by
  unfold mapF
  rw [find_ins]
  by_cases h : q = e.client
  · rw [if_pos h, if_pos (show q = (eMark e).client from h)]; rfl
  · rw [if_neg h, if_neg h, if_neg (show ¬ q = (eMark e).client from h)]
theorem look_at (c : List Mark) (q : Int) : (mapF c q).getD (.agg [Value.int .i64 0, .int .i64 0, .int .i64 0].toArray) = .agg [Value.int .i64 (findM c q).client, .int .i64 (findM c q).seq, .int .i64 (findM c q).index].toArray := by
  unfold mapF findM
  cases c.find? (fun x => decide (x.client = q)) <;> rfl
theorem look_some (c : List Mark) (q : Int) : (mapF c q).isSome = (c.find? fun x => decide (x.client = q)).isSome := by
  unfold mapF
  cases c.find? (fun x => decide (x.client = q)) <;> rfl
theorem mark_one (m : Mark) : ∀ u ∈ [Value.int .i64 m.client, .int .i64 m.seq, .int .i64 m.index], u.oneCell' = true := by
  intro u hu
  simp only [List.mem_cons, List.not_mem_nil, or_false] at hu
  rcases hu with rfl | rfl | rfl <;> rfl
theorem out_yes {c : List Mark} {k : Nat} {z : Int} (hs : SOk c) (hz : z = (k : Int) + 2) (h : (c.find? fun x => decide (x.client = z)).isSome = true) : (outF c k).map markC ++ [[iC (findM c z).client, iC (findM c z).seq, iC (findM c z).index]] = (outF c (k + 1)).map markC := by
  obtain ⟨m, hm⟩ := Option.isSome_iff_exists.1 h
  have e : findM c z = m := by unfold findM; rw [hm]; rfl
  rw [outF_next hs, show (2 : Int) + k = z by omega, hm, e]
  simp
theorem out_no {c : List Mark} {k : Nat} {z : Int} (hs : SOk c) (hz : z = (k : Int) + 2) (h : (c.find? fun x => decide (x.client = z)).isSome = false) : (outF c k).map markC = (outF c (k + 1)).map markC := by
  have hm : c.find? (fun x => decide (x.client = z)) = none := by simpa using h
  rw [outF_next hs, show (2 : Int) + k = z by omega, hm]
  simp
theorem c_FreshIn (l : List Mark) (c x : Int) : Pure Tryz.prog 169 [one (marks l), one (iC c), one (iC x)] (bR (freshIn l c x)) := by
 refine pure_intro (N := 25) Tryz.func169 rfl rfl rfl rfl (fun H w => ?_)
 refine sq (rg (xs rfl rfl (nl (et (sq (rg (xm rfl rfl (evl_call (nm := 8) (cf rfl) (c_SeenOk l) (rs_of rfl) rfl rfl rfl (xm rfl rfl (evl_part rfl rfl (fun h1 => ?_) (fun h1 => ?_)))))))))))
 · refine gm h1 rfl rfl rfl rfl (evl_callg rfl rfl h1 (nm := 11) (cf rfl) (c_AskerOk _) (rs_of rfl) rfl rfl rfl (xo (q_pick_t rfl h1 rfl) rfl (xm rfl rfl (evl_part rfl rfl (fun h2 => ?_) (fun h2 => ?_)))))
   · refine gm h2 rfl rfl rfl rfl (evl_callg rfl rfl h2 (nm := 15) (cf rfl) (c_seqOk _) (rs_of rfl) rfl rfl rfl (xo (q_pick_t rfl h2 rfl) rfl (xm rfl rfl (evl_part rfl rfl (fun h3 => ?_) (fun h3 => ?_)))))
     · refine gm h3 rfl rfl rfl rfl (gm h3 rfl rfl rfl rfl (gm h3 rfl rfl rfl rfl (evl_callg rfl rfl h3 (nm := 21) (cf rfl) (c_MarkOf2 l c (by assumption)) (rs_of rfl) rfl rfl rfl (go h3 rfl rfl (q_field ttOk rfl) rfl (go h3 rfl rfl (q_bin ttOk rfl) rfl (xo (q_pick_t rfl h3 rfl) rfl (xs rfl rfl (nl (et (ev_ret (ret_pure' ttOk rfl rfl (congrArg bR (?_ : _ = _)))))))))))))
       simp_all [freshIn]
     · refine gn h3 rfl rfl rfl (gn h3 rfl rfl rfl (gn h3 rfl rfl rfl (gn h3 rfl rfl rfl (gn h3 rfl rfl rfl (gn h3 rfl rfl rfl (xo (q_pick_f rfl h3 rfl) rfl (xs rfl rfl (nl (et (ev_ret (ret_pure' ttOk rfl rfl (congrArg bR (?_ : _ = _)))))))))))))
       simp_all [freshIn]
   · refine gn h2 rfl rfl rfl (gn h2 rfl rfl rfl (xo (q_pick_f rfl h2 rfl) rfl (xm rfl rfl (gn rfl rfl rfl rfl (gn rfl rfl rfl rfl (gn rfl rfl rfl rfl (gn rfl rfl rfl rfl (gn rfl rfl rfl rfl (gn rfl rfl rfl rfl (xo (q_pick_f rfl rfl rfl) rfl (xs rfl rfl (nl (et (ev_ret (ret_pure' ttOk rfl rfl (congrArg bR (?_ : _ = _)))))))))))))))))
     simp_all [freshIn]
 · refine gn h1 rfl rfl rfl (gn h1 rfl rfl rfl (xo (q_pick_f rfl h1 rfl) rfl (xm rfl rfl (gn rfl rfl rfl rfl (gn rfl rfl rfl rfl (xo (q_pick_f rfl rfl rfl) rfl (xm rfl rfl (gn rfl rfl rfl rfl (gn rfl rfl rfl rfl (gn rfl rfl rfl rfl (gn rfl rfl rfl rfl (gn rfl rfl rfl rfl (gn rfl rfl rfl rfl (xo (q_pick_f rfl rfl rfl) rfl (xs rfl rfl (nl (et (ev_ret (ret_pure' ttOk rfl rfl (congrArg bR (?_ : _ = _)))))))))))))))))))))
   simp_all [freshIn]
theorem c_LastSeen2 (l : List Mark) (h : seenOk l = true) : Pure Tryz.prog 145 [one (marks l)] (iR (lastF l)) := by
  have := c_LastSeen l
  rw [h] at this
  exact this
theorem c_Marked (l : List Mark) (e : Entry) : Pure Tryz.prog 98 [one (marks l), many (entryC e)] [one' (marksR (markedF l e).1), one' (RC.v (.bool (markedF l e).2))] := by
 refine pure_intro (N := 87) Tryz.func98 rfl rfl rfl rfl (fun H w => ?_)
 refine ev_lenm (t := 0) rfl (fun hL => ?_)
 refine sq (rg (evl_e (e_box rfl rfl rfl rfl) (xs rfl rfl (xs rfl rfl (nl (et (sq (sq (rg (xm rfl rfl (evl_call (nm := 11) (cf rfl) (c_SeenOk l) (rs_of rfl) rfl rfl rfl (xo (q_not rfl) rfl (nl (et (ev_cond_n rfl (fun h1 => ?_) (fun h1 => ?_))))))))))))))))
 · try have d1 := of_decide_eq_false h1
   refine sq (rg (evl_e (e_lit ttOk rfl rfl rfl) (xs rfl rfl (xs rfl rfl (nl (et (ev_ret (evr_then (ret_pureN ttOk rfl rfl ?_)))))))))
   first
   | (rw [mk_no0 (by assumption)]; simp [RpLe, L2, RcLe]; done)
   | (rw [mk_yes (by assumption) hfr, ← mkEnd2 (by omega) (show mkInv l (eMark e) k o false by rw [← (show dn = false by assumption)]; exact p1)]; simp [RpLe, L2, RcLe, eMark]; done)
   | (rw [mk_yes (by assumption) hfr, ← mkEnd1 (by omega) (show mkInv l (eMark e) k o true by rw [← (show dn = true by assumption)]; exact p1)]; simp [RpLe, L2, RcLe]; done)
   | (rw [mk_no (by assumption) (fresh_no1 (by assumption))]; simp [RpLe, L2, RcLe]; done)
   | (rw [mk_no (by assumption) (fresh_no2 (by assumption) (by assumption) (by assumption))]; simp [RpLe, L2, RcLe]; done)
   | (rw [mk_no (by assumption) (fresh_no3 (by assumption))]; simp [RpLe, L2, RcLe]; done)
 · try have d1 := of_decide_eq_true h1
   have hl4 := seen_len h1
   have hso := sok_of h1
   refine ev_skip (et (sq (sq (ev_drawq [] mo (rdk_take 0 rfl (by kernel_rfl) trivial (q_load ttOk rfl) rfl (rdk_one 1 (by kernel_rfl) (rdo_call (nm := 15) rfl trivial (cf rfl) (c_EntryOk e) (rs_of rfl) rfl rfl rfl (rdk_take 2 rfl (by kernel_rfl) trivial (q_not rfl) rfl (rdk_take 3 rfl (by kernel_rfl) trivial (q_move rfl) rfl (rdk_partn (t := 17) rfl (fun h2 => ?_) (fun h2 => ?_)))))))))))
   · try have d2 := of_decide_eq_false h2
     refine rdk_skip 4 rfl (by kernel_rfl) ⟨_, rfl, .inl ⟨_, rfl, (nt h2)⟩⟩ rfl (rdk_skip 5 rfl (by kernel_rfl) ⟨_, rfl, .inl ⟨_, rfl, (nt h2)⟩⟩ rfl (rdk_skip 6 rfl (by kernel_rfl) ⟨_, rfl, .inl ⟨_, rfl, (nt h2)⟩⟩ rfl (rdk_skip 7 rfl (by kernel_rfl) ⟨_, rfl, .inl ⟨_, rfl, (nt h2)⟩⟩ rfl (rdk_skip 8 rfl (by kernel_rfl) ⟨_, rfl, .inl ⟨_, rfl, (nt h2)⟩⟩ rfl (rdk_skip 9 rfl (by kernel_rfl) ⟨_, rfl, .inl ⟨_, rfl, (nt h2)⟩⟩ rfl (rdk_skip 10 rfl (by kernel_rfl) ⟨_, rfl, .inl ⟨_, rfl, (nt h2)⟩⟩ rfl (rdk_take 11 rfl (by kernel_rfl) trivial (q_pick_t rfl (nt h2) rfl) rfl (rdk_take 12 rfl (by kernel_rfl) trivial (q_move rfl) rfl (rdk_skip 13 rfl (by kernel_rfl) ⟨_, rfl, .inl ⟨_, rfl, rfl⟩⟩ rfl (rdk_skip 14 rfl (by kernel_rfl) ⟨_, rfl, .inl ⟨_, rfl, rfl⟩⟩ rfl (rdk_skip 15 rfl (by kernel_rfl) ⟨_, rfl, .inl ⟨_, rfl, rfl⟩⟩ rfl (rdk_skip 16 rfl (by kernel_rfl) ⟨_, rfl, .inl ⟨_, rfl, rfl⟩⟩ rfl (rdk_skip 17 rfl (by kernel_rfl) ⟨_, rfl, .inl ⟨_, rfl, rfl⟩⟩ rfl (rdk_take 18 rfl (by kernel_rfl) trivial (q_pick_t rfl rfl rfl) rfl (rdk_endq (by kernel_rfl) (et (ev_cond_kt rfl rfl (sq (rg (xm rfl rfl (evl_call (nm := 34) (cf rfl) (c_l9Copy l (by omega)) (rs_of rfl) rfl rfl rfl (xs rfl rfl (xs rfl rfl (nl (et (ev_ret (evr_then (ret_pureN ttOk rfl rfl ?_))))))))))))))))))))))))))))
     first
     | (rw [mk_no0 (by assumption)]; simp [RpLe, L2, RcLe]; done)
     | (rw [mk_yes (by assumption) hfr, ← mkEnd2 (by omega) (show mkInv l (eMark e) k o false by rw [← (show dn = false by assumption)]; exact p1)]; simp [RpLe, L2, RcLe, eMark]; done)
     | (rw [mk_yes (by assumption) hfr, ← mkEnd1 (by omega) (show mkInv l (eMark e) k o true by rw [← (show dn = true by assumption)]; exact p1)]; simp [RpLe, L2, RcLe]; done)
     | (rw [mk_no (by assumption) (fresh_no1 (by assumption))]; simp [RpLe, L2, RcLe]; done)
     | (rw [mk_no (by assumption) (fresh_no2 (by assumption) (by assumption) (by assumption))]; simp [RpLe, L2, RcLe]; done)
     | (rw [mk_no (by assumption) (fresh_no3 (by assumption))]; simp [RpLe, L2, RcLe]; done)
   · try have d2 := of_decide_eq_true h2
     refine rdk_take 4 rfl (by kernel_rfl) ⟨_, _, rfl, rfl, (nf h2)⟩ (q_move rfl) rfl (rdk_take 5 rfl (by kernel_rfl) ⟨_, _, rfl, rfl, (nf h2)⟩ (q_fieldAddr ttOk rfl) rfl (rdk_take 6 rfl (by kernel_rfl) ⟨_, _, rfl, rfl, (nf h2)⟩ (q_load ttOk rfl) rfl (rdk_take 7 rfl (by kernel_rfl) ⟨_, _, rfl, rfl, (nf h2)⟩ (q_fieldAddr ttOk rfl) rfl (rdk_take 8 rfl (by kernel_rfl) ⟨_, _, rfl, rfl, (nf h2)⟩ (q_load ttOk rfl) rfl (rdk_one 9 (by kernel_rfl) (rdo_call (nm := 23) rfl ⟨_, _, rfl, rfl, (nf h2)⟩ (cf rfl) (c_FreshIn l e.client e.seq) (rs_of rfl) rfl rfl rfl (rdk_take 10 rfl (by kernel_rfl) ⟨_, _, rfl, rfl, (nf h2)⟩ (q_not rfl) rfl (rdk_take 11 rfl (by kernel_rfl) trivial (q_pick_f rfl (nf h2) rfl) rfl (rdk_take 12 rfl (by kernel_rfl) trivial (q_move rfl) rfl (rdk_partn (t := 26) rfl (fun h3 => ?_) (fun h3 => ?_)))))))))))
     · try have d3 := of_decide_eq_false h3
       refine rdk_skip 13 rfl (by kernel_rfl) ⟨_, rfl, .inl ⟨_, rfl, (nt h3)⟩⟩ rfl (rdk_skip 14 rfl (by kernel_rfl) ⟨_, rfl, .inl ⟨_, rfl, (nt h3)⟩⟩ rfl (rdk_skip 15 rfl (by kernel_rfl) ⟨_, rfl, .inl ⟨_, rfl, (nt h3)⟩⟩ rfl (rdk_skip 16 rfl (by kernel_rfl) ⟨_, rfl, .inl ⟨_, rfl, (nt h3)⟩⟩ rfl (rdk_skip 17 rfl (by kernel_rfl) ⟨_, rfl, .inl ⟨_, rfl, (nt h3)⟩⟩ rfl (rdk_take 18 rfl (by kernel_rfl) trivial (q_pick_t rfl (nt h3) rfl) rfl (rdk_endq (by kernel_rfl) (et (ev_cond_kt rfl rfl (sq (rg (xm rfl rfl (evl_call (nm := 34) (cf rfl) (c_l9Copy l (by omega)) (rs_of rfl) rfl rfl rfl (xs rfl rfl (xs rfl rfl (nl (et (ev_ret (evr_then (ret_pureN ttOk rfl rfl ?_)))))))))))))))))))
       first
       | (rw [mk_no0 (by assumption)]; simp [RpLe, L2, RcLe]; done)
       | (rw [mk_yes (by assumption) hfr, ← mkEnd2 (by omega) (show mkInv l (eMark e) k o false by rw [← (show dn = false by assumption)]; exact p1)]; simp [RpLe, L2, RcLe, eMark]; done)
       | (rw [mk_yes (by assumption) hfr, ← mkEnd1 (by omega) (show mkInv l (eMark e) k o true by rw [← (show dn = true by assumption)]; exact p1)]; simp [RpLe, L2, RcLe]; done)
       | (rw [mk_no (by assumption) (fresh_no1 (by assumption))]; simp [RpLe, L2, RcLe]; done)
       | (rw [mk_no (by assumption) (fresh_no2 (by assumption) (by assumption) (by assumption))]; simp [RpLe, L2, RcLe]; done)
       | (rw [mk_no (by assumption) (fresh_no3 (by assumption))]; simp [RpLe, L2, RcLe]; done)
     · try have d3 := of_decide_eq_true h3
       refine rdk_take 13 rfl (by kernel_rfl) ⟨_, _, rfl, rfl, (nf h3)⟩ (q_fieldAddr ttOk rfl) rfl (rdk_take 14 rfl (by kernel_rfl) ⟨_, _, rfl, rfl, (nf h3)⟩ (q_load ttOk rfl) rfl (rdk_take 15 rfl (by kernel_rfl) ⟨_, _, rfl, rfl, (nf h3)⟩ (q_move rfl) rfl (rdk_one 16 (by kernel_rfl) (rdo_call (nm := 30) rfl ⟨_, _, rfl, rfl, (nf h3)⟩ (cf rfl) (c_LastSeen2 l (by assumption)) (rs_of rfl) rfl rfl rfl (rdk_take 17 rfl (by kernel_rfl) ⟨_, _, rfl, rfl, (nf h3)⟩ (q_bin ttOk rfl) rfl (rdk_take 18 rfl (by kernel_rfl) trivial (q_pick_f rfl (nf h3) rfl) rfl (rdk_endq (by kernel_rfl) (et (ev_cond rfl (fun h4 => ?_) (fun h4 => ?_))))))))))
       · try have d4 := of_decide_eq_true h4
         refine sq (rg (xm rfl rfl (evl_call (nm := 34) (cf rfl) (c_l9Copy l (by omega)) (rs_of rfl) rfl rfl rfl (xs rfl rfl (xs rfl rfl (nl (et (ev_ret (evr_then (ret_pureN ttOk rfl rfl ?_))))))))))
         first
         | (rw [mk_no0 (by assumption)]; simp [RpLe, L2, RcLe]; done)
         | (rw [mk_yes (by assumption) hfr, ← mkEnd2 (by omega) (show mkInv l (eMark e) k o false by rw [← (show dn = false by assumption)]; exact p1)]; simp [RpLe, L2, RcLe, eMark]; done)
         | (rw [mk_yes (by assumption) hfr, ← mkEnd1 (by omega) (show mkInv l (eMark e) k o true by rw [← (show dn = true by assumption)]; exact p1)]; simp [RpLe, L2, RcLe]; done)
         | (rw [mk_no (by assumption) (fresh_no1 (by assumption))]; simp [RpLe, L2, RcLe]; done)
         | (rw [mk_no (by assumption) (fresh_no2 (by assumption) (by assumption) (by assumption))]; simp [RpLe, L2, RcLe]; done)
         | (rw [mk_no (by assumption) (fresh_no3 (by assumption))]; simp [RpLe, L2, RcLe]; done)
       · try have d4 := of_decide_eq_false h4
         refine ev_skip (et (sq ?_))
         have hfr := fresh_yes (l := l) (e := e) (by assumption) (by assumption) (by assumption)
         refine rg (xf ttOk rfl rfl (xl ttOk rfl rfl (xf ttOk rfl rfl (xl ttOk rfl rfl (xf ttOk rfl rfl (xl ttOk rfl rfl (xo (q_build ttOk rfl) rfl (evl_e (e_alloc ttOk rfl rfl rfl rfl) (xst ttOk rfl rfl (nl (et (sq (rg (evl_e (e_lit ttOk rfl rfl rfl) (xs rfl rfl (nl (et (sq (rg (xs rfl rfl (nl (et (sq (sq (rg (xs rfl rfl (nl (et (ev_blk (ev_loop (fun i : Nat × List Mark × Bool => (⟨[(9, iV i.1), (0, cV (marks l)), (3, .p false [.pb 3 0]), (6, .p false [.pb 6 0]), (7, .p false [.rt 101]), (8, bV i.2.2)], [(6, 156, [.c (iC e.client), .c (iC e.seq), .c (iC e.index)]), (3, 121, [.c (iC e.index), .c (iC e.time), .c (iC e.client), .c (iC e.seq), .c (iC e.kind), .c (iC e.a), .c (iC e.b), .c (iC e.c), .c (iC e.d)])], [(101, 156, 3, (i.2.1.map markC))], []⟩ : St)) (fun i => i.1 ≤ l.length ∧ mkInv l (eMark e) i.1 i.2.1 i.2.2) (fun i => l.length - i.1) (0, [], false) [(101, 42)] (⟨by simp, mkInv0⟩) ⟨by (repeat first | exact trivial | refine ⟨rfl, ?_⟩), by (repeat first | exact trivial | refine ⟨rfl, ?_⟩), ⟨⟨_, rfl, by rfl⟩, trivial⟩, by (repeat first | exact trivial | refine ⟨⟨_, rfl, rfl⟩, ?_⟩), rfl⟩ ?_))))))))))))))))))))))))))))))
         intro i hp
         obtain ⟨k, o, dn⟩ := i
         have hp : k ≤ l.length ∧ mkInv l (eMark e) k o dn := hp
         obtain ⟨p0, p1⟩ := hp
         show Ev _ _ _ _ (⟨[(9, iV k), (0, cV (marks l)), (3, .p false [.pb 3 0]), (6, .p false [.pb 6 0]), (7, .p false [.rt 101]), (8, bV dn)], [(6, 156, [.c (iC e.client), .c (iC e.seq), .c (iC e.index)]), (3, 121, [.c (iC e.index), .c (iC e.time), .c (iC e.client), .c (iC e.seq), .c (iC e.kind), .c (iC e.a), .c (iC e.b), .c (iC e.c), .c (iC e.d)])], [(101, 156, 3, (o.map markC))], []⟩ : St)
         have hol := mkInv_len p1
         refine sq (sq (rg (xm rfl rfl (xm rfl rfl (xo (q_len_map ttOk rfl rfl) rfl (xb ttOk rfl rfl (nl (et (ev_cond rfl (fun h5 => ?_) (fun h5 => ?_))))))))))
         · try have d5 := of_decide_eq_true h5
           refine ev_skip (et (sq (ev_blk (sq (sq (ev_drawq [] mo (rdk_take 0 rfl (by kernel_rfl) trivial (q_move rfl) rfl (rdk_take 1 rfl (by kernel_rfl) trivial (q_not rfl) rfl (rdk_take 2 rfl (by kernel_rfl) trivial (q_move rfl) rfl (rdk_partn (t := 51) rfl (fun h6 => ?_) (fun h6 => ?_)))))))))))
           · try have d6 := of_decide_eq_false h6
             refine rdk_take 3 rfl (by kernel_rfl) ⟨_, _, rfl, rfl, (nt h6)⟩ (q_move rfl) rfl (rdk_take 4 rfl (by kernel_rfl) ⟨_, _, rfl, rfl, (nt h6)⟩ (q_move rfl) rfl (rdk_take 5 rfl (by kernel_rfl) ⟨_, _, rfl, rfl, (nt h6)⟩ (q_ix_map ttOk rfl rfl rfl rfl (by omega)) rfl (rdk_take 6 rfl (by kernel_rfl) ⟨_, _, rfl, rfl, (nt h6)⟩ (q_fieldAddr ttOk rfl) rfl (rdk_take 7 rfl (by kernel_rfl) ⟨_, _, rfl, rfl, (nt h6)⟩ (q_load ttOk rfl) rfl (rdk_take 8 rfl (by kernel_rfl) ⟨_, _, rfl, rfl, (nt h6)⟩ (q_fieldAddr ttOk rfl) rfl (rdk_take 9 rfl (by kernel_rfl) ⟨_, _, rfl, rfl, (nt h6)⟩ (q_load ttOk rfl) rfl (rdk_take 10 rfl (by kernel_rfl) ⟨_, _, rfl, rfl, (nt h6)⟩ (q_bin ttOk rfl) rfl (rdk_take 11 rfl (by kernel_rfl) trivial (q_pick_t rfl (nt h6) rfl) rfl (rdk_endq (by kernel_rfl) (et (ev_cond rfl (fun h7 => ?_) (fun h7 => ?_))))))))))))
             · try have d7 := of_decide_eq_true h7
               refine sq (rg (xm rfl rfl (xl ttOk rfl rfl (evl_e (e_lit ttOk rfl rfl rfl) (evl_e (e_app ttOk rfl rfl rfl rfl rfl rfl rfl (by simp; omega) rfl rfl) (xs rfl rfl (nl (et (rg (xs rfl rfl (nl (et (sq (ev_drawq [] mo (rdk_take 0 rfl (by kernel_rfl) trivial (q_move rfl) rfl (rdk_take 1 rfl (by kernel_rfl) trivial (q_move rfl) rfl (rdk_take 2 rfl (by kernel_rfl) trivial (q_ix_map ttOk rfl rfl rfl rfl (by omega)) rfl (rdk_take 3 rfl (by kernel_rfl) trivial (q_fieldAddr ttOk rfl) rfl (rdk_take 4 rfl (by kernel_rfl) trivial (q_load ttOk rfl) rfl (rdk_take 5 rfl (by kernel_rfl) trivial (q_fieldAddr ttOk rfl) rfl (rdk_take 6 rfl (by kernel_rfl) trivial (q_load ttOk rfl) rfl (rdk_take 7 rfl (by kernel_rfl) trivial (q_bin ttOk rfl) rfl (rdk_endq (by kernel_rfl) (et (ev_cond rfl (fun h8 => ?_) (fun h8 => ?_))))))))))))))))))))))))))
               · try have d8 := of_decide_eq_true h8
                 refine rg (xm rfl rfl (xm rfl rfl (xm rfl rfl (xo (q_ix_map ttOk rfl rfl rfl rfl (by omega)) rfl (xl ttOk rfl rfl (evl_e (e_lit ttOk rfl rfl rfl) (evl_e (e_app ttOk rfl rfl rfl rfl rfl rfl rfl (by simp; omega) rfl rfl) (xs rfl rfl (nl (eb (et (rg (xm rfl rfl (xa rfl rfl rfl (by omega) rfl (xs rfl rfl (nl (eve_round (k + 1, o ++ [eMark e] ++ [l[k]], true) [(101, 79)] ?hp ⟨by (repeat first | exact trivial | refine ⟨rfl, ?_⟩), by (repeat first | exact trivial | refine ⟨rfl, ?_⟩), ⟨⟨_, rfl, by simp [eMark]⟩, trivial⟩, by (repeat first | exact trivial | refine ⟨⟨_, rfl, rfl⟩, ?_⟩), rfl⟩)))))))))))))))))
                 have hd : dn = false := by assumption
                 subst hd
                 case hp => exact ⟨⟨by omega, mkInv1 (by omega) p1 (show l[k].client ≥ e.client by omega) (show l[k].client ≠ e.client by omega)⟩, by omega⟩
               · try have d8 := of_decide_eq_false h8
                 refine ev_skip (eb (et (rg (xm rfl rfl (xa rfl rfl rfl (by omega) rfl (xs rfl rfl (nl (eve_round (k + 1, o ++ [eMark e], true) [(101, 64)] ?hp ⟨by (repeat first | exact trivial | refine ⟨rfl, ?_⟩), by (repeat first | exact trivial | refine ⟨rfl, ?_⟩), ⟨⟨_, rfl, by simp [eMark]⟩, trivial⟩, by (repeat first | exact trivial | refine ⟨⟨_, rfl, rfl⟩, ?_⟩), rfl⟩))))))))
                 have hd : dn = false := by assumption
                 subst hd
                 case hp => exact ⟨⟨by omega, mkInv2 (by omega) p1 (show l[k].client = e.client by omega)⟩, by omega⟩
             · try have d7 := of_decide_eq_false h7
               refine ev_skip (et (sq (ev_drawq [] mo (rdk_take 0 rfl (by kernel_rfl) trivial (q_move rfl) rfl (rdk_take 1 rfl (by kernel_rfl) trivial (q_move rfl) rfl (rdk_take 2 rfl (by kernel_rfl) trivial (q_ix_map ttOk rfl rfl rfl rfl (by omega)) rfl (rdk_take 3 rfl (by kernel_rfl) trivial (q_fieldAddr ttOk rfl) rfl (rdk_take 4 rfl (by kernel_rfl) trivial (q_load ttOk rfl) rfl (rdk_take 5 rfl (by kernel_rfl) trivial (q_fieldAddr ttOk rfl) rfl (rdk_take 6 rfl (by kernel_rfl) trivial (q_load ttOk rfl) rfl (rdk_take 7 rfl (by kernel_rfl) trivial (q_bin ttOk rfl) rfl (rdk_endq (by kernel_rfl) (et (ev_cond rfl (fun h9 => ?_) (fun h9 => ?_)))))))))))))))
               · try have d9 := of_decide_eq_true h9
                 refine rg (xm rfl rfl (xm rfl rfl (xm rfl rfl (xo (q_ix_map ttOk rfl rfl rfl rfl (by omega)) rfl (xl ttOk rfl rfl (evl_e (e_lit ttOk rfl rfl rfl) (evl_e (e_app ttOk rfl rfl rfl rfl rfl rfl rfl (by simp; omega) rfl rfl) (xs rfl rfl (nl (eb (et (rg (xm rfl rfl (xa rfl rfl rfl (by omega) rfl (xs rfl rfl (nl (eve_round (k + 1, o ++ [l[k]], dn) [(101, 79)] ?hp ⟨by (repeat first | exact trivial | refine ⟨rfl, ?_⟩), by (repeat first | exact trivial | refine ⟨rfl, ?_⟩), ⟨⟨_, rfl, by simp [eMark]⟩, trivial⟩, by (repeat first | exact trivial | refine ⟨⟨_, rfl, rfl⟩, ?_⟩), rfl⟩)))))))))))))))))
                 case hp => first
                 | (have hd : dn = true := by assumption
                    subst hd
                    exact ⟨⟨by omega, mkInv3 hso (by omega) p1⟩, by omega⟩)
                 | (have hd : dn = false := by assumption
                    subst hd
                    exact ⟨⟨by omega, mkInv4 (by omega) p1 (show l[k].client < e.client by omega)⟩, by omega⟩)
               · try have d9 := of_decide_eq_false h9
                 refine ev_skip (eb (et (rg (xm rfl rfl (xa rfl rfl rfl (by omega) rfl (xs rfl rfl (nl ?_)))))))
                 exfalso
                 first
                 | (have hd : dn = true := by assumption
                    subst hd
                    have h9 := mk_over hso (by omega) p1
                    have h8 : e.client < l[k].client := h9
                    omega)
                 | omega
           · try have d6 := of_decide_eq_true h6
             refine rdk_skip 3 rfl (by kernel_rfl) ⟨_, rfl, .inl ⟨_, rfl, (nf h6)⟩⟩ rfl (rdk_skip 4 rfl (by kernel_rfl) ⟨_, rfl, .inl ⟨_, rfl, (nf h6)⟩⟩ rfl (rdk_skip 5 rfl (by kernel_rfl) ⟨_, rfl, .inl ⟨_, rfl, (nf h6)⟩⟩ rfl (rdk_skip 6 rfl (by kernel_rfl) ⟨_, rfl, .inl ⟨_, rfl, (nf h6)⟩⟩ rfl (rdk_skip 7 rfl (by kernel_rfl) ⟨_, rfl, .inl ⟨_, rfl, (nf h6)⟩⟩ rfl (rdk_skip 8 rfl (by kernel_rfl) ⟨_, rfl, .inl ⟨_, rfl, (nf h6)⟩⟩ rfl (rdk_skip 9 rfl (by kernel_rfl) ⟨_, rfl, .inl ⟨_, rfl, (nf h6)⟩⟩ rfl (rdk_skip 10 rfl (by kernel_rfl) ⟨_, rfl, .inl ⟨_, rfl, (nf h6)⟩⟩ rfl (rdk_take 11 rfl (by kernel_rfl) trivial (q_pick_f rfl (nf h6) rfl) rfl (rdk_endq (by kernel_rfl) (et (ev_cond_kf rfl rfl (ev_skip (et (sq (ev_drawq [] mo (rdk_take 0 rfl (by kernel_rfl) trivial (q_move rfl) rfl (rdk_take 1 rfl (by kernel_rfl) trivial (q_move rfl) rfl (rdk_take 2 rfl (by kernel_rfl) trivial (q_ix_map ttOk rfl rfl rfl rfl (by omega)) rfl (rdk_take 3 rfl (by kernel_rfl) trivial (q_fieldAddr ttOk rfl) rfl (rdk_take 4 rfl (by kernel_rfl) trivial (q_load ttOk rfl) rfl (rdk_take 5 rfl (by kernel_rfl) trivial (q_fieldAddr ttOk rfl) rfl (rdk_take 6 rfl (by kernel_rfl) trivial (q_load ttOk rfl) rfl (rdk_take 7 rfl (by kernel_rfl) trivial (q_bin ttOk rfl) rfl (rdk_endq (by kernel_rfl) (et (ev_cond rfl (fun h10 => ?_) (fun h10 => ?_)))))))))))))))))))))))))))
             · try have d10 := of_decide_eq_true h10
               refine rg (xm rfl rfl (xm rfl rfl (xm rfl rfl (xo (q_ix_map ttOk rfl rfl rfl rfl (by omega)) rfl (xl ttOk rfl rfl (evl_e (e_lit ttOk rfl rfl rfl) (evl_e (e_app ttOk rfl rfl rfl rfl rfl rfl rfl (by simp; omega) rfl rfl) (xs rfl rfl (nl (eb (et (rg (xm rfl rfl (xa rfl rfl rfl (by omega) rfl (xs rfl rfl (nl (eve_round (k + 1, o ++ [l[k]], dn) [(101, 79)] ?hp ⟨by (repeat first | exact trivial | refine ⟨rfl, ?_⟩), by (repeat first | exact trivial | refine ⟨rfl, ?_⟩), ⟨⟨_, rfl, by simp [eMark]⟩, trivial⟩, by (repeat first | exact trivial | refine ⟨⟨_, rfl, rfl⟩, ?_⟩), rfl⟩)))))))))))))))))
               case hp => first
               | (have hd : dn = true := by assumption
                  subst hd
                  exact ⟨⟨by omega, mkInv3 hso (by omega) p1⟩, by omega⟩)
               | (have hd : dn = false := by assumption
                  subst hd
                  exact ⟨⟨by omega, mkInv4 (by omega) p1 (show l[k].client < e.client by omega)⟩, by omega⟩)
             · try have d10 := of_decide_eq_false h10
               refine ev_skip (eb (et (rg (xm rfl rfl (xa rfl rfl rfl (by omega) rfl (xs rfl rfl (nl ?_)))))))
               exfalso
               first
               | (have hd : dn = true := by assumption
                  subst hd
                  have h9 := mk_over hso (by omega) p1
                  have h8 : e.client < l[k].client := h9
                  omega)
               | omega
         · try have d5 := of_decide_eq_false h5
           refine ev_exit (evx_then (evx_then (evx_hit (et (sq (sq (rg (xm rfl rfl (xo (q_not rfl) rfl (nl (et (ev_cond_n rfl (fun h11 => ?_) (fun h11 => ?_)))))))))))))
           · try have d11 := of_decide_eq_false h11
             refine rg (xm rfl rfl (xl ttOk rfl rfl (evl_e (e_lit ttOk rfl rfl rfl) (evl_e (e_app ttOk rfl rfl rfl rfl rfl rfl rfl (by simp; omega) rfl rfl) (xs rfl rfl (nl (et (sq (rg (xm rfl rfl (xs rfl rfl (xs rfl rfl (nl (et (ev_ret (ret_pureN ttOk rfl rfl ?_))))))))))))))))
             first
             | (rw [mk_no0 (by assumption)]; simp [RpLe, L2, RcLe]; done)
             | (rw [mk_yes (by assumption) hfr, ← mkEnd2 (by omega) (show mkInv l (eMark e) k o false by rw [← (show dn = false by assumption)]; exact p1)]; simp [RpLe, L2, RcLe, eMark]; done)
             | (rw [mk_yes (by assumption) hfr, ← mkEnd1 (by omega) (show mkInv l (eMark e) k o true by rw [← (show dn = true by assumption)]; exact p1)]; simp [RpLe, L2, RcLe]; done)
             | (rw [mk_no (by assumption) (fresh_no1 (by assumption))]; simp [RpLe, L2, RcLe]; done)
             | (rw [mk_no (by assumption) (fresh_no2 (by assumption) (by assumption) (by assumption))]; simp [RpLe, L2, RcLe]; done)
             | (rw [mk_no (by assumption) (fresh_no3 (by assumption))]; simp [RpLe, L2, RcLe]; done)
           · try have d11 := of_decide_eq_true h11
             refine ev_skip (et (sq (rg (xm rfl rfl (xs rfl rfl (xs rfl rfl (nl (et (ev_ret (ret_pureN ttOk rfl rfl ?_))))))))))
             first
             | (rw [mk_no0 (by assumption)]; simp [RpLe, L2, RcLe]; done)
             | (rw [mk_yes (by assumption) hfr, ← mkEnd2 (by omega) (show mkInv l (eMark e) k o false by rw [← (show dn = false by assumption)]; exact p1)]; simp [RpLe, L2, RcLe, eMark]; done)
             | (rw [mk_yes (by assumption) hfr, ← mkEnd1 (by omega) (show mkInv l (eMark e) k o true by rw [← (show dn = true by assumption)]; exact p1)]; simp [RpLe, L2, RcLe]; done)
             | (rw [mk_no (by assumption) (fresh_no1 (by assumption))]; simp [RpLe, L2, RcLe]; done)
             | (rw [mk_no (by assumption) (fresh_no2 (by assumption) (by assumption) (by assumption))]; simp [RpLe, L2, RcLe]; done)
             | (rw [mk_no (by assumption) (fresh_no3 (by assumption))]; simp [RpLe, L2, RcLe]; done)

end Go.Proofs.YtpbhcdgdabfhfaaGreat
