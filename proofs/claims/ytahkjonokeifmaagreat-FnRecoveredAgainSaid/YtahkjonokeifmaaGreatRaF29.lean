/- Walks of functions of the program, printed by a program of the prover. -/
import Derived.Test.YtahkjonokeifmaaGreatRaF27
import Derived.Test.YtahkjonokeifmaaGreatRaVY
namespace Go.Proofs.YtahkjonokeifmaaGreat
open Go.ChangeShapes Go.WideShapes Go.ChangeAt Go.RowKit
set_option linter.unusedVariables false
set_option linter.unusedSimpArgs false
set_option maxHeartbeats 1000000
set_option maxRecDepth 100000
attribute [local irreducible] EvL Ev EvE Quiet Eff Pure RDk RDb RDo
theorem inB_iff {x a b : Int} : inB x a b = true ↔ a ≤ x ∧ x ≤ b := by simp [inB]
def opOk (k a b c d : Int) : Bool :=
 if k = 1 then inB a 0 9 && (inB b 0 999 && (decide (c = 0) && decide (d = 0)))
 else if k = 2 then inB a 0 9 && (decide (b = 0) && (decide (c = 0) && decide (d = 0)))
 else if k = 3 then inB a 1 20 && (timeOk b && (inB c 0 9 && inB d 0 999))
 else if k = 4 then inB a 1 20 && (inB b 0 1000 && (decide (c = 0) && decide (d = 0)))
 else if k = 5 then inB a 1 1000 && (decide (b = 0) && (decide (c = 0) && decide (d = 0))) else false
def entryOk (e : Entry) : Bool := indexOk e.index && (timeOk e.time && (askerOk e.client && (seqOk e.seq && opOk e.kind e.a e.b e.c e.d)))
def entOver (l : List Entry) (k : Nat) (e : Entry) : Bool := match k with
 | 0 => true
 | j + 1 => match l[j]? with
  | some p => decide (e.index = p.index + 1) && decide (p.time ≤ e.time)
  | none => true
def entStep (l : List Entry) (k : Nat) : Bool := match l[k]? with
 | none => true
 | some e => entryOk e && entOver l k e
def entriesOk (l : List Entry) : Bool := decide (l.length ≤ 2000) && (List.range l.length).all (entStep l)
theorem entStep_at {l : List Entry} {k : Nat} (hk : k < l.length) : entStep l k = (entryOk l[k] && entOver l k l[k]) := by simp [entStep, List.getElem?_eq_getElem hk]
theorem entriesOk_iff {l : List Entry} : entriesOk l = true ↔ l.length ≤ 2000 ∧ ∀ k, k < l.length → entStep l k = true := by simp [entriesOk]
theorem ents_long {l : List Entry} (h : 2000 < l.length) : entriesOk l = false := by
 cases h2 : entriesOk l with
 | false => rfl
 | true => have := (entriesOk_iff.1 h2).1; omega
theorem ents_no {l : List Entry} {k : Nat} (hk : k < l.length) (h : entStep l k = false) : entriesOk l = false := by
 cases h2 : entriesOk l with
 | false => rfl
 | true => rw [(entriesOk_iff.1 h2).2 k hk] at h; cases h
theorem es_no1 {l : List Entry} {k : Nat} (hk : k < l.length) (h : entryOk l[k] = false) : entStep l k = false := by rw [entStep_at hk]; simp [h]
theorem entOver_at {l : List Entry} {k : Nat} (hk : k < l.length) (h0 : 0 < k) : entOver l k l[k] = (decide (l[k].index = l[k - 1].index + 1) && decide (l[k - 1].time ≤ l[k].time)) := by
 obtain ⟨j, rfl⟩ : ∃ j, k = j + 1 := ⟨k - 1, by omega⟩
 simp only [entOver, List.getElem?_eq_getElem (show j < l.length by omega)]
 rfl
theorem es_no2 {l : List Entry} {k : Nat} (hk : k < l.length) (h0 : 0 < k) (h : l[k].index ≠ l[k - 1].index + 1) : entStep l k = false := by rw [entStep_at hk, entOver_at hk h0]; simp [h]
theorem es_no3 {l : List Entry} {k : Nat} (hk : k < l.length) (h0 : 0 < k) (h : l[k].time < l[k - 1].time) : entStep l k = false := by
 have h1 : ¬ l[k - 1].time ≤ l[k].time := by omega
 rw [entStep_at hk, entOver_at hk h0]
 simp [h1]
theorem es_yes {l : List Entry} {k : Nat} (hk : k < l.length) (h1 : entryOk l[k] = true) (h2 : k = 0 ∨ ∃ h0 : 0 < k, l[k].index = l[k - 1].index + 1 ∧ ¬ l[k].time < l[k - 1].time) : entStep l k = true := by
 rw [entStep_at hk, h1]
 rcases h2 with rfl | ⟨h0, h3, h4⟩
 ·rfl
 ·rw [entOver_at hk h0]
  have : l[k - 1].time ≤ l[k].time := by omega
  simp [h3, this]
theorem es_next {l : List Entry} {k : Nat} (h : ∀ q, q < k → entStep l q = true) (hk : entStep l k = true) : ∀ q, q < k + 1 → entStep l q = true := fun q hq => by
 rcases Nat.lt_or_ge q k with h9 | h9
 ·exact h q h9
 ·rw [show q = k by omega]; exact hk
theorem entry_ix {e : Entry} (h : entryOk e = true) : 1 ≤ e.index ∧ e.index ≤ 2000 := by
 simp only [entryOk, indexOk, inB, Bool.and_eq_true, decide_eq_true_eq] at h
 omega
theorem es_bd {l : List Entry} {k : Nat} (h : ∀ q, q < k → entStep l q = true) (hk : k - 1 < l.length) (h0 : 0 < k) : -9223372036854775808 ≤ l[k - 1].index + 1 ∧ l[k - 1].index + 1 ≤ 9223372036854775807 := by
 have h1 := h (k - 1) om
 rw [entStep_at hk] at h1
 simp only [Bool.and_eq_true] at h1
 have := entry_ix h1.1
 omega
def bookOk (b : Book) : Bool := inB b.base 0 2000 && (timeOk b.time && (!(decide (b.base = 0) && decide (b.time ≠ 0)) && (decide (b.entries.length ≤ 20) && (entriesOk b.entries && (match b.entries with
 | [] => true
 | e :: _ => decide (e.index = b.base + 1) && decide (e.time ≥ b.time))))))
theorem c_keyOk (x : Int) : Pure Tryz.prog 153 [one (iC x)] (bR (inB x 0 9)) := by
 refine pure_intro (N := 5) Tryz.func153 rfl rfl rfl rfl (fun H w => ?_)
 refine sq (rg (xs rfl rfl (nl (et (sq (rg (xm rfl rfl (evl_call (nm := 4) (cf rfl) (c_l1In _ _ _) (rs_of rfl) rfl rfl rfl (xs rfl rfl (nl (et (ev_ret (ret_pure' ttOk rfl rfl ?_)))))))))))))
 rfl
theorem c_keyOk' (x : Int) : Pure Tryz.prog 119 [one (iC x)] (bR (inB x 0 9)) := by
 refine pure_intro (N := 5) Tryz.func119 rfl rfl rfl rfl (fun H w => ?_)
 refine sq (rg (xs rfl rfl (nl (et (sq (rg (xm rfl rfl (evl_call (nm := 4) (cf rfl) (c_between _ _ _) (rs_of rfl) rfl rfl rfl (xs rfl rfl (nl (et (ev_ret (ret_pure' ttOk rfl rfl ?_)))))))))))))
 rfl
theorem c_valueOk (x : Int) : Pure Tryz.prog 154 [one (iC x)] (bR (inB x 0 999)) := by
 refine pure_intro (N := 5) Tryz.func154 rfl rfl rfl rfl (fun H w => ?_)
 refine sq (rg (xs rfl rfl (nl (et (sq (rg (xm rfl rfl (evl_call (nm := 4) (cf rfl) (c_l1In _ _ _) (rs_of rfl) rfl rfl rfl (xs rfl rfl (nl (et (ev_ret (ret_pure' ttOk rfl rfl ?_)))))))))))))
 rfl
theorem c_valueOk' (x : Int) : Pure Tryz.prog 120 [one (iC x)] (bR (inB x 0 999)) := by
 refine pure_intro (N := 5) Tryz.func120 rfl rfl rfl rfl (fun H w => ?_)
 refine sq (rg (xs rfl rfl (nl (et (sq (rg (xm rfl rfl (evl_call (nm := 4) (cf rfl) (c_between _ _ _) (rs_of rfl) rfl rfl rfl (xs rfl rfl (nl (et (ev_ret (ret_pure' ttOk rfl rfl ?_)))))))))))))
 rfl
theorem c_idOk (x : Int) : Pure Tryz.prog 155 [one (iC x)] (bR (inB x 1 20)) := by
 refine pure_intro (N := 5) Tryz.func155 rfl rfl rfl rfl (fun H w => ?_)
 refine sq (rg (xs rfl rfl (nl (et (sq (rg (xm rfl rfl (evl_call (nm := 4) (cf rfl) (c_l1In _ _ _) (rs_of rfl) rfl rfl rfl (xs rfl rfl (nl (et (ev_ret (ret_pure' ttOk rfl rfl ?_)))))))))))))
 rfl
theorem c_idOk' (x : Int) : Pure Tryz.prog 121 [one (iC x)] (bR (inB x 1 20)) := by
 refine pure_intro (N := 5) Tryz.func121 rfl rfl rfl rfl (fun H w => ?_)
 refine sq (rg (xs rfl rfl (nl (et (sq (rg (xm rfl rfl (evl_call (nm := 4) (cf rfl) (c_between _ _ _) (rs_of rfl) rfl rfl rfl (xs rfl rfl (nl (et (ev_ret (ret_pure' ttOk rfl rfl ?_)))))))))))))
 rfl
theorem c_OpOk (k a b c d : Int) : Pure Tryz.prog 149 [many [iC k, iC a, iC b, iC c, iC d]] (bR (opOk k a b c d)) := by
 refine pure_intro (N := 105) Tryz.func149 rfl rfl rfl rfl (fun H w => ?_)
 refine sq (rg (evl_e (e_box rfl rfl rfl rfl) (xs rfl rfl (nl (et (sq (sq (rg (xf ttOk rfl rfl (xl ttOk rfl rfl (nl (et (ev_blk (sq (rg (xb ttOk rfl rfl (xs rfl rfl (nl (et (ev_cond rfl (fun h1 => ?_) (fun h1 => ?_)))))))))))))))))))))
 ·try have d1 := of_decide_eq_true h1
  refine sq (rg (xf ttOk rfl rfl (xl ttOk rfl rfl (evl_call (nm := 9) (cf rfl) (c_keyOk _) (rs_of rfl) rfl rfl rfl (xm rfl rfl (evl_part rfl rfl (fun h2 => ?_) (fun h2 => ?_)))))))
  ·try have d2 := of_decide_eq_true h2
   refine go h2 rfl rfl (q_fieldAddr ttOk rfl) rfl (go h2 rfl rfl (q_load ttOk rfl) rfl (evl_callg rfl rfl h2 (nm := 13) (cf rfl) (c_valueOk _) (rs_of rfl) rfl rfl rfl (xo (q_pick_t rfl h2 rfl) rfl (xm rfl rfl (evl_part rfl rfl (fun h3 => ?_) (fun h3 => ?_))))))
   ·try have d3 := of_decide_eq_true h3
    refine go h3 rfl rfl (q_fieldAddr ttOk rfl) rfl (go h3 rfl rfl (q_load ttOk rfl) rfl (go h3 rfl rfl (q_bin ttOk rfl) rfl (xo (q_pick_t rfl h3 rfl) rfl (xm rfl rfl (evl_part rfl rfl (fun h4 => ?_) (fun h4 => ?_))))))
    ·try have d4 := of_decide_eq_true h4
     refine go h4 rfl rfl (q_fieldAddr ttOk rfl) rfl (go h4 rfl rfl (q_load ttOk rfl) rfl (go h4 rfl rfl (q_bin ttOk rfl) rfl (xo (q_pick_t rfl h4 rfl) rfl (xs rfl rfl (nl (et (ev_ret (evr_blk (evr_then (ret_pure' ttOk rfl rfl (congrArg bR (?_ : _ = _))))))))))))
     simp_all [opOk]
    ·try have d4 := of_decide_eq_false h4
     refine gn h4 rfl rfl rfl (gn h4 rfl rfl rfl (gn h4 rfl rfl rfl (xo (q_pick_f rfl h4 rfl) rfl (xs rfl rfl (nl (et (ev_ret (evr_blk (evr_then (ret_pure' ttOk rfl rfl (congrArg bR (?_ : _ = _))))))))))))
     simp_all [opOk]
   ·try have d3 := of_decide_eq_false h3
    refine gn h3 rfl rfl rfl (gn h3 rfl rfl rfl (gn h3 rfl rfl rfl (xo (q_pick_f rfl h3 rfl) rfl (xm rfl rfl (gn rfl rfl rfl rfl (gn rfl rfl rfl rfl (gn rfl rfl rfl rfl (xo (q_pick_f rfl rfl rfl) rfl (xs rfl rfl (nl (et (ev_ret (evr_blk (evr_then (ret_pure' ttOk rfl rfl (congrArg bR (?_ : _ = _)))))))))))))))))
    simp_all [opOk]
  ·try have d2 := of_decide_eq_false h2
   refine gn h2 rfl rfl rfl (gn h2 rfl rfl rfl (gn h2 rfl rfl rfl (xo (q_pick_f rfl h2 rfl) rfl (xm rfl rfl (gn rfl rfl rfl rfl (gn rfl rfl rfl rfl (gn rfl rfl rfl rfl (xo (q_pick_f rfl rfl rfl) rfl (xm rfl rfl (gn rfl rfl rfl rfl (gn rfl rfl rfl rfl (gn rfl rfl rfl rfl (xo (q_pick_f rfl rfl rfl) rfl (xs rfl rfl (nl (et (ev_ret (evr_blk (evr_then (ret_pure' ttOk rfl rfl (congrArg bR (?_ : _ = _))))))))))))))))))))))
   simp_all [opOk]
 ·try have d1 := of_decide_eq_false h1
  refine sq (rg (xb ttOk rfl rfl (xs rfl rfl (nl (et (ev_cond rfl (fun h5 => ?_) (fun h5 => ?_)))))))
  ·try have d5 := of_decide_eq_true h5
   refine sq (rg (xf ttOk rfl rfl (xl ttOk rfl rfl (evl_call (nm := 29) (cf rfl) (c_keyOk _) (rs_of rfl) rfl rfl rfl (xm rfl rfl (evl_part rfl rfl (fun h6 => ?_) (fun h6 => ?_)))))))
   ·try have d6 := of_decide_eq_true h6
    refine go h6 rfl rfl (q_fieldAddr ttOk rfl) rfl (go h6 rfl rfl (q_load ttOk rfl) rfl (go h6 rfl rfl (q_bin ttOk rfl) rfl (xo (q_pick_t rfl h6 rfl) rfl (xm rfl rfl (evl_part rfl rfl (fun h7 => ?_) (fun h7 => ?_))))))
    ·try have d7 := of_decide_eq_true h7
     refine go h7 rfl rfl (q_fieldAddr ttOk rfl) rfl (go h7 rfl rfl (q_load ttOk rfl) rfl (go h7 rfl rfl (q_bin ttOk rfl) rfl (xo (q_pick_t rfl h7 rfl) rfl (xm rfl rfl (evl_part rfl rfl (fun h8 => ?_) (fun h8 => ?_))))))
     ·try have d8 := of_decide_eq_true h8
      refine go h8 rfl rfl (q_fieldAddr ttOk rfl) rfl (go h8 rfl rfl (q_load ttOk rfl) rfl (go h8 rfl rfl (q_bin ttOk rfl) rfl (xo (q_pick_t rfl h8 rfl) rfl (xs rfl rfl (nl (et (ev_ret (evr_blk (evr_then (ret_pure' ttOk rfl rfl (congrArg bR (?_ : _ = _))))))))))))
      simp_all [opOk]
     ·try have d8 := of_decide_eq_false h8
      refine gn h8 rfl rfl rfl (gn h8 rfl rfl rfl (gn h8 rfl rfl rfl (xo (q_pick_f rfl h8 rfl) rfl (xs rfl rfl (nl (et (ev_ret (evr_blk (evr_then (ret_pure' ttOk rfl rfl (congrArg bR (?_ : _ = _))))))))))))
      simp_all [opOk]
    ·try have d7 := of_decide_eq_false h7
     refine gn h7 rfl rfl rfl (gn h7 rfl rfl rfl (gn h7 rfl rfl rfl (xo (q_pick_f rfl h7 rfl) rfl (xm rfl rfl (gn rfl rfl rfl rfl (gn rfl rfl rfl rfl (gn rfl rfl rfl rfl (xo (q_pick_f rfl rfl rfl) rfl (xs rfl rfl (nl (et (ev_ret (evr_blk (evr_then (ret_pure' ttOk rfl rfl (congrArg bR (?_ : _ = _)))))))))))))))))
     simp_all [opOk]
   ·try have d6 := of_decide_eq_false h6
    refine gn h6 rfl rfl rfl (gn h6 rfl rfl rfl (gn h6 rfl rfl rfl (xo (q_pick_f rfl h6 rfl) rfl (xm rfl rfl (gn rfl rfl rfl rfl (gn rfl rfl rfl rfl (gn rfl rfl rfl rfl (xo (q_pick_f rfl rfl rfl) rfl (xm rfl rfl (gn rfl rfl rfl rfl (gn rfl rfl rfl rfl (gn rfl rfl rfl rfl (xo (q_pick_f rfl rfl rfl) rfl (xs rfl rfl (nl (et (ev_ret (evr_blk (evr_then (ret_pure' ttOk rfl rfl (congrArg bR (?_ : _ = _))))))))))))))))))))))
    simp_all [opOk]
  ·try have d5 := of_decide_eq_false h5
   refine sq (rg (xb ttOk rfl rfl (xs rfl rfl (nl (et (ev_cond rfl (fun h9 => ?_) (fun h9 => ?_)))))))
   ·try have d9 := of_decide_eq_true h9
    refine sq (rg (xf ttOk rfl rfl (xl ttOk rfl rfl (evl_call (nm := 49) (cf rfl) (c_idOk _) (rs_of rfl) rfl rfl rfl (xm rfl rfl (evl_part rfl rfl (fun h10 => ?_) (fun h10 => ?_)))))))
    ·try have d10 := of_decide_eq_true h10
     refine go h10 rfl rfl (q_fieldAddr ttOk rfl) rfl (go h10 rfl rfl (q_load ttOk rfl) rfl (evl_callg rfl rfl h10 (nm := 53) (cf rfl) (c_TimeOk _) (rs_of rfl) rfl rfl rfl (xo (q_pick_t rfl h10 rfl) rfl (xm rfl rfl (evl_part rfl rfl (fun h11 => ?_) (fun h11 => ?_))))))
     ·try have d11 := of_decide_eq_true h11
      refine go h11 rfl rfl (q_fieldAddr ttOk rfl) rfl (go h11 rfl rfl (q_load ttOk rfl) rfl (evl_callg rfl rfl h11 (nm := 58) (cf rfl) (c_keyOk _) (rs_of rfl) rfl rfl rfl (xo (q_pick_t rfl h11 rfl) rfl (xm rfl rfl (evl_part rfl rfl (fun h12 => ?_) (fun h12 => ?_))))))
      ·try have d12 := of_decide_eq_true h12
       refine go h12 rfl rfl (q_fieldAddr ttOk rfl) rfl (go h12 rfl rfl (q_load ttOk rfl) rfl (evl_callg rfl rfl h12 (nm := 63) (cf rfl) (c_valueOk _) (rs_of rfl) rfl rfl rfl (xo (q_pick_t rfl h12 rfl) rfl (xs rfl rfl (nl (et (ev_ret (evr_blk (evr_then (ret_pure' ttOk rfl rfl (congrArg bR (?_ : _ = _))))))))))))
       simp_all [opOk]
      ·try have d12 := of_decide_eq_false h12
       refine gn h12 rfl rfl rfl (gn h12 rfl rfl rfl (gn h12 rfl rfl rfl (xo (q_pick_f rfl h12 rfl) rfl (xs rfl rfl (nl (et (ev_ret (evr_blk (evr_then (ret_pure' ttOk rfl rfl (congrArg bR (?_ : _ = _))))))))))))
       simp_all [opOk]
     ·try have d11 := of_decide_eq_false h11
      refine gn h11 rfl rfl rfl (gn h11 rfl rfl rfl (gn h11 rfl rfl rfl (xo (q_pick_f rfl h11 rfl) rfl (xm rfl rfl (gn rfl rfl rfl rfl (gn rfl rfl rfl rfl (gn rfl rfl rfl rfl (xo (q_pick_f rfl rfl rfl) rfl (xs rfl rfl (nl (et (ev_ret (evr_blk (evr_then (ret_pure' ttOk rfl rfl (congrArg bR (?_ : _ = _)))))))))))))))))
      simp_all [opOk]
    ·try have d10 := of_decide_eq_false h10
     refine gn h10 rfl rfl rfl (gn h10 rfl rfl rfl (gn h10 rfl rfl rfl (xo (q_pick_f rfl h10 rfl) rfl (xm rfl rfl (gn rfl rfl rfl rfl (gn rfl rfl rfl rfl (gn rfl rfl rfl rfl (xo (q_pick_f rfl rfl rfl) rfl (xm rfl rfl (gn rfl rfl rfl rfl (gn rfl rfl rfl rfl (gn rfl rfl rfl rfl (xo (q_pick_f rfl rfl rfl) rfl (xs rfl rfl (nl (et (ev_ret (evr_blk (evr_then (ret_pure' ttOk rfl rfl (congrArg bR (?_ : _ = _))))))))))))))))))))))
     simp_all [opOk]
   ·try have d9 := of_decide_eq_false h9
    refine sq (rg (xb ttOk rfl rfl (xs rfl rfl (nl (et (ev_cond rfl (fun h13 => ?_) (fun h13 => ?_)))))))
    ·try have d13 := of_decide_eq_true h13
     refine sq (rg (xf ttOk rfl rfl (xl ttOk rfl rfl (evl_call (nm := 69) (cf rfl) (c_idOk _) (rs_of rfl) rfl rfl rfl (xm rfl rfl (evl_part rfl rfl (fun h14 => ?_) (fun h14 => ?_)))))))
     ·try have d14 := of_decide_eq_true h14
      refine go h14 rfl rfl (q_fieldAddr ttOk rfl) rfl (go h14 rfl rfl (q_load ttOk rfl) rfl (evl_callg rfl rfl h14 (nm := 73) (cf rfl) (c_l1In _ _ _) (rs_of rfl) rfl rfl rfl (xo (q_pick_t rfl h14 rfl) rfl (xm rfl rfl (evl_part rfl rfl (fun h15 => ?_) (fun h15 => ?_))))))
      ·try have d15 := of_decide_eq_true h15
       refine go h15 rfl rfl (q_fieldAddr ttOk rfl) rfl (go h15 rfl rfl (q_load ttOk rfl) rfl (go h15 rfl rfl (q_bin ttOk rfl) rfl (xo (q_pick_t rfl h15 rfl) rfl (xm rfl rfl (evl_part rfl rfl (fun h16 => ?_) (fun h16 => ?_))))))
       ·try have d16 := of_decide_eq_true h16
        refine go h16 rfl rfl (q_fieldAddr ttOk rfl) rfl (go h16 rfl rfl (q_load ttOk rfl) rfl (go h16 rfl rfl (q_bin ttOk rfl) rfl (xo (q_pick_t rfl h16 rfl) rfl (xs rfl rfl (nl (et (ev_ret (evr_blk (evr_then (ret_pure' ttOk rfl rfl (congrArg bR (?_ : _ = _))))))))))))
        simp_all [opOk]
       ·try have d16 := of_decide_eq_false h16
        refine gn h16 rfl rfl rfl (gn h16 rfl rfl rfl (gn h16 rfl rfl rfl (xo (q_pick_f rfl h16 rfl) rfl (xs rfl rfl (nl (et (ev_ret (evr_blk (evr_then (ret_pure' ttOk rfl rfl (congrArg bR (?_ : _ = _))))))))))))
        simp_all [opOk]
      ·try have d15 := of_decide_eq_false h15
       refine gn h15 rfl rfl rfl (gn h15 rfl rfl rfl (gn h15 rfl rfl rfl (xo (q_pick_f rfl h15 rfl) rfl (xm rfl rfl (gn rfl rfl rfl rfl (gn rfl rfl rfl rfl (gn rfl rfl rfl rfl (xo (q_pick_f rfl rfl rfl) rfl (xs rfl rfl (nl (et (ev_ret (evr_blk (evr_then (ret_pure' ttOk rfl rfl (congrArg bR (?_ : _ = _)))))))))))))))))
       simp_all [opOk]
     ·try have d14 := of_decide_eq_false h14
      refine gn h14 rfl rfl rfl (gn h14 rfl rfl rfl (gn h14 rfl rfl rfl (xo (q_pick_f rfl h14 rfl) rfl (xm rfl rfl (gn rfl rfl rfl rfl (gn rfl rfl rfl rfl (gn rfl rfl rfl rfl (xo (q_pick_f rfl rfl rfl) rfl (xm rfl rfl (gn rfl rfl rfl rfl (gn rfl rfl rfl rfl (gn rfl rfl rfl rfl (xo (q_pick_f rfl rfl rfl) rfl (xs rfl rfl (nl (et (ev_ret (evr_blk (evr_then (ret_pure' ttOk rfl rfl (congrArg bR (?_ : _ = _))))))))))))))))))))))
      simp_all [opOk]
    ·try have d13 := of_decide_eq_false h13
     refine sq (rg (xb ttOk rfl rfl (xs rfl rfl (nl (et (ev_cond rfl (fun h17 => ?_) (fun h17 => ?_)))))))
     ·try have d17 := of_decide_eq_true h17
      refine sq (rg (xf ttOk rfl rfl (xl ttOk rfl rfl (evl_call (nm := 89) (cf rfl) (c_l1In _ _ _) (rs_of rfl) rfl rfl rfl (xm rfl rfl (evl_part rfl rfl (fun h18 => ?_) (fun h18 => ?_)))))))
      ·try have d18 := of_decide_eq_true h18
       refine go h18 rfl rfl (q_fieldAddr ttOk rfl) rfl (go h18 rfl rfl (q_load ttOk rfl) rfl (go h18 rfl rfl (q_bin ttOk rfl) rfl (xo (q_pick_t rfl h18 rfl) rfl (xm rfl rfl (evl_part rfl rfl (fun h19 => ?_) (fun h19 => ?_))))))
       ·try have d19 := of_decide_eq_true h19
        refine go h19 rfl rfl (q_fieldAddr ttOk rfl) rfl (go h19 rfl rfl (q_load ttOk rfl) rfl (go h19 rfl rfl (q_bin ttOk rfl) rfl (xo (q_pick_t rfl h19 rfl) rfl (xm rfl rfl (evl_part rfl rfl (fun h20 => ?_) (fun h20 => ?_))))))
        ·try have d20 := of_decide_eq_true h20
         refine go h20 rfl rfl (q_fieldAddr ttOk rfl) rfl (go h20 rfl rfl (q_load ttOk rfl) rfl (go h20 rfl rfl (q_bin ttOk rfl) rfl (xo (q_pick_t rfl h20 rfl) rfl (xs rfl rfl (nl (et (ev_ret (evr_blk (evr_then (ret_pure' ttOk rfl rfl (congrArg bR (?_ : _ = _))))))))))))
         simp_all [opOk]
        ·try have d20 := of_decide_eq_false h20
         refine gn h20 rfl rfl rfl (gn h20 rfl rfl rfl (gn h20 rfl rfl rfl (xo (q_pick_f rfl h20 rfl) rfl (xs rfl rfl (nl (et (ev_ret (evr_blk (evr_then (ret_pure' ttOk rfl rfl (congrArg bR (?_ : _ = _))))))))))))
         simp_all [opOk]
       ·try have d19 := of_decide_eq_false h19
        refine gn h19 rfl rfl rfl (gn h19 rfl rfl rfl (gn h19 rfl rfl rfl (xo (q_pick_f rfl h19 rfl) rfl (xm rfl rfl (gn rfl rfl rfl rfl (gn rfl rfl rfl rfl (gn rfl rfl rfl rfl (xo (q_pick_f rfl rfl rfl) rfl (xs rfl rfl (nl (et (ev_ret (evr_blk (evr_then (ret_pure' ttOk rfl rfl (congrArg bR (?_ : _ = _)))))))))))))))))
        simp_all [opOk]
      ·try have d18 := of_decide_eq_false h18
       refine gn h18 rfl rfl rfl (gn h18 rfl rfl rfl (gn h18 rfl rfl rfl (xo (q_pick_f rfl h18 rfl) rfl (xm rfl rfl (gn rfl rfl rfl rfl (gn rfl rfl rfl rfl (gn rfl rfl rfl rfl (xo (q_pick_f rfl rfl rfl) rfl (xm rfl rfl (gn rfl rfl rfl rfl (gn rfl rfl rfl rfl (gn rfl rfl rfl rfl (xo (q_pick_f rfl rfl rfl) rfl (xs rfl rfl (nl (et (ev_ret (evr_blk (evr_then (ret_pure' ttOk rfl rfl (congrArg bR (?_ : _ = _))))))))))))))))))))))
       simp_all [opOk]
     ·try have d17 := of_decide_eq_false h17
      refine ev_skip (eb (et (sq (rg (xs rfl rfl (nl (et (ev_ret (ret_pure' ttOk rfl rfl (congrArg bR (?_ : _ = _)))))))))))
      simp_all [opOk]
theorem c_OpOk' (k a b c d : Int) : Pure Tryz.prog 83 [many [iC k, iC a, iC b, iC c, iC d]] (bR (opOk k a b c d)) := by
 refine pure_intro (N := 105) Tryz.func83 rfl rfl rfl rfl (fun H w => ?_)
 refine sq (rg (evl_e (e_box rfl rfl rfl rfl) (xs rfl rfl (nl (et (sq (sq (rg (xf ttOk rfl rfl (xl ttOk rfl rfl (nl (et (ev_blk (sq (rg (xb ttOk rfl rfl (xs rfl rfl (nl (et (ev_cond rfl (fun h1 => ?_) (fun h1 => ?_)))))))))))))))))))))
 ·try have d1 := of_decide_eq_true h1
  refine sq (rg (xf ttOk rfl rfl (xl ttOk rfl rfl (evl_call (nm := 9) (cf rfl) (c_keyOk' _) (rs_of rfl) rfl rfl rfl (xm rfl rfl (evl_part rfl rfl (fun h2 => ?_) (fun h2 => ?_)))))))
  ·try have d2 := of_decide_eq_true h2
   refine go h2 rfl rfl (q_fieldAddr ttOk rfl) rfl (go h2 rfl rfl (q_load ttOk rfl) rfl (evl_callg rfl rfl h2 (nm := 13) (cf rfl) (c_valueOk' _) (rs_of rfl) rfl rfl rfl (xo (q_pick_t rfl h2 rfl) rfl (xm rfl rfl (evl_part rfl rfl (fun h3 => ?_) (fun h3 => ?_))))))
   ·try have d3 := of_decide_eq_true h3
    refine go h3 rfl rfl (q_fieldAddr ttOk rfl) rfl (go h3 rfl rfl (q_load ttOk rfl) rfl (go h3 rfl rfl (q_bin ttOk rfl) rfl (xo (q_pick_t rfl h3 rfl) rfl (xm rfl rfl (evl_part rfl rfl (fun h4 => ?_) (fun h4 => ?_))))))
    ·try have d4 := of_decide_eq_true h4
     refine go h4 rfl rfl (q_fieldAddr ttOk rfl) rfl (go h4 rfl rfl (q_load ttOk rfl) rfl (go h4 rfl rfl (q_bin ttOk rfl) rfl (xo (q_pick_t rfl h4 rfl) rfl (xs rfl rfl (nl (et (ev_ret (evr_blk (evr_then (ret_pure' ttOk rfl rfl (congrArg bR (?_ : _ = _))))))))))))
     simp_all [opOk]
    ·try have d4 := of_decide_eq_false h4
     refine gn h4 rfl rfl rfl (gn h4 rfl rfl rfl (gn h4 rfl rfl rfl (xo (q_pick_f rfl h4 rfl) rfl (xs rfl rfl (nl (et (ev_ret (evr_blk (evr_then (ret_pure' ttOk rfl rfl (congrArg bR (?_ : _ = _))))))))))))
     simp_all [opOk]
   ·try have d3 := of_decide_eq_false h3
    refine gn h3 rfl rfl rfl (gn h3 rfl rfl rfl (gn h3 rfl rfl rfl (xo (q_pick_f rfl h3 rfl) rfl (xm rfl rfl (gn rfl rfl rfl rfl (gn rfl rfl rfl rfl (gn rfl rfl rfl rfl (xo (q_pick_f rfl rfl rfl) rfl (xs rfl rfl (nl (et (ev_ret (evr_blk (evr_then (ret_pure' ttOk rfl rfl (congrArg bR (?_ : _ = _)))))))))))))))))
    simp_all [opOk]
  ·try have d2 := of_decide_eq_false h2
   refine gn h2 rfl rfl rfl (gn h2 rfl rfl rfl (gn h2 rfl rfl rfl (xo (q_pick_f rfl h2 rfl) rfl (xm rfl rfl (gn rfl rfl rfl rfl (gn rfl rfl rfl rfl (gn rfl rfl rfl rfl (xo (q_pick_f rfl rfl rfl) rfl (xm rfl rfl (gn rfl rfl rfl rfl (gn rfl rfl rfl rfl (gn rfl rfl rfl rfl (xo (q_pick_f rfl rfl rfl) rfl (xs rfl rfl (nl (et (ev_ret (evr_blk (evr_then (ret_pure' ttOk rfl rfl (congrArg bR (?_ : _ = _))))))))))))))))))))))
   simp_all [opOk]
 ·try have d1 := of_decide_eq_false h1
  refine sq (rg (xb ttOk rfl rfl (xs rfl rfl (nl (et (ev_cond rfl (fun h5 => ?_) (fun h5 => ?_)))))))
  ·try have d5 := of_decide_eq_true h5
   refine sq (rg (xf ttOk rfl rfl (xl ttOk rfl rfl (evl_call (nm := 29) (cf rfl) (c_keyOk' _) (rs_of rfl) rfl rfl rfl (xm rfl rfl (evl_part rfl rfl (fun h6 => ?_) (fun h6 => ?_)))))))
   ·try have d6 := of_decide_eq_true h6
    refine go h6 rfl rfl (q_fieldAddr ttOk rfl) rfl (go h6 rfl rfl (q_load ttOk rfl) rfl (go h6 rfl rfl (q_bin ttOk rfl) rfl (xo (q_pick_t rfl h6 rfl) rfl (xm rfl rfl (evl_part rfl rfl (fun h7 => ?_) (fun h7 => ?_))))))
    ·try have d7 := of_decide_eq_true h7
     refine go h7 rfl rfl (q_fieldAddr ttOk rfl) rfl (go h7 rfl rfl (q_load ttOk rfl) rfl (go h7 rfl rfl (q_bin ttOk rfl) rfl (xo (q_pick_t rfl h7 rfl) rfl (xm rfl rfl (evl_part rfl rfl (fun h8 => ?_) (fun h8 => ?_))))))
     ·try have d8 := of_decide_eq_true h8
      refine go h8 rfl rfl (q_fieldAddr ttOk rfl) rfl (go h8 rfl rfl (q_load ttOk rfl) rfl (go h8 rfl rfl (q_bin ttOk rfl) rfl (xo (q_pick_t rfl h8 rfl) rfl (xs rfl rfl (nl (et (ev_ret (evr_blk (evr_then (ret_pure' ttOk rfl rfl (congrArg bR (?_ : _ = _))))))))))))
      simp_all [opOk]
     ·try have d8 := of_decide_eq_false h8
      refine gn h8 rfl rfl rfl (gn h8 rfl rfl rfl (gn h8 rfl rfl rfl (xo (q_pick_f rfl h8 rfl) rfl (xs rfl rfl (nl (et (ev_ret (evr_blk (evr_then (ret_pure' ttOk rfl rfl (congrArg bR (?_ : _ = _))))))))))))
      simp_all [opOk]
    ·try have d7 := of_decide_eq_false h7
     refine gn h7 rfl rfl rfl (gn h7 rfl rfl rfl (gn h7 rfl rfl rfl (xo (q_pick_f rfl h7 rfl) rfl (xm rfl rfl (gn rfl rfl rfl rfl (gn rfl rfl rfl rfl (gn rfl rfl rfl rfl (xo (q_pick_f rfl rfl rfl) rfl (xs rfl rfl (nl (et (ev_ret (evr_blk (evr_then (ret_pure' ttOk rfl rfl (congrArg bR (?_ : _ = _)))))))))))))))))
     simp_all [opOk]
   ·try have d6 := of_decide_eq_false h6
    refine gn h6 rfl rfl rfl (gn h6 rfl rfl rfl (gn h6 rfl rfl rfl (xo (q_pick_f rfl h6 rfl) rfl (xm rfl rfl (gn rfl rfl rfl rfl (gn rfl rfl rfl rfl (gn rfl rfl rfl rfl (xo (q_pick_f rfl rfl rfl) rfl (xm rfl rfl (gn rfl rfl rfl rfl (gn rfl rfl rfl rfl (gn rfl rfl rfl rfl (xo (q_pick_f rfl rfl rfl) rfl (xs rfl rfl (nl (et (ev_ret (evr_blk (evr_then (ret_pure' ttOk rfl rfl (congrArg bR (?_ : _ = _))))))))))))))))))))))
    simp_all [opOk]
  ·try have d5 := of_decide_eq_false h5
   refine sq (rg (xb ttOk rfl rfl (xs rfl rfl (nl (et (ev_cond rfl (fun h9 => ?_) (fun h9 => ?_)))))))
   ·try have d9 := of_decide_eq_true h9
    refine sq (rg (xf ttOk rfl rfl (xl ttOk rfl rfl (evl_call (nm := 49) (cf rfl) (c_idOk' _) (rs_of rfl) rfl rfl rfl (xm rfl rfl (evl_part rfl rfl (fun h10 => ?_) (fun h10 => ?_)))))))
    ·try have d10 := of_decide_eq_true h10
     refine go h10 rfl rfl (q_fieldAddr ttOk rfl) rfl (go h10 rfl rfl (q_load ttOk rfl) rfl (evl_callg rfl rfl h10 (nm := 53) (cf rfl) (c_TimeOk' _) (rs_of rfl) rfl rfl rfl (xo (q_pick_t rfl h10 rfl) rfl (xm rfl rfl (evl_part rfl rfl (fun h11 => ?_) (fun h11 => ?_))))))
     ·try have d11 := of_decide_eq_true h11
      refine go h11 rfl rfl (q_fieldAddr ttOk rfl) rfl (go h11 rfl rfl (q_load ttOk rfl) rfl (evl_callg rfl rfl h11 (nm := 58) (cf rfl) (c_keyOk' _) (rs_of rfl) rfl rfl rfl (xo (q_pick_t rfl h11 rfl) rfl (xm rfl rfl (evl_part rfl rfl (fun h12 => ?_) (fun h12 => ?_))))))
      ·try have d12 := of_decide_eq_true h12
       refine go h12 rfl rfl (q_fieldAddr ttOk rfl) rfl (go h12 rfl rfl (q_load ttOk rfl) rfl (evl_callg rfl rfl h12 (nm := 63) (cf rfl) (c_valueOk' _) (rs_of rfl) rfl rfl rfl (xo (q_pick_t rfl h12 rfl) rfl (xs rfl rfl (nl (et (ev_ret (evr_blk (evr_then (ret_pure' ttOk rfl rfl (congrArg bR (?_ : _ = _))))))))))))
       simp_all [opOk]
      ·try have d12 := of_decide_eq_false h12
       refine gn h12 rfl rfl rfl (gn h12 rfl rfl rfl (gn h12 rfl rfl rfl (xo (q_pick_f rfl h12 rfl) rfl (xs rfl rfl (nl (et (ev_ret (evr_blk (evr_then (ret_pure' ttOk rfl rfl (congrArg bR (?_ : _ = _))))))))))))
       simp_all [opOk]
     ·try have d11 := of_decide_eq_false h11
      refine gn h11 rfl rfl rfl (gn h11 rfl rfl rfl (gn h11 rfl rfl rfl (xo (q_pick_f rfl h11 rfl) rfl (xm rfl rfl (gn rfl rfl rfl rfl (gn rfl rfl rfl rfl (gn rfl rfl rfl rfl (xo (q_pick_f rfl rfl rfl) rfl (xs rfl rfl (nl (et (ev_ret (evr_blk (evr_then (ret_pure' ttOk rfl rfl (congrArg bR (?_ : _ = _)))))))))))))))))
      simp_all [opOk]
    ·try have d10 := of_decide_eq_false h10
     refine gn h10 rfl rfl rfl (gn h10 rfl rfl rfl (gn h10 rfl rfl rfl (xo (q_pick_f rfl h10 rfl) rfl (xm rfl rfl (gn rfl rfl rfl rfl (gn rfl rfl rfl rfl (gn rfl rfl rfl rfl (xo (q_pick_f rfl rfl rfl) rfl (xm rfl rfl (gn rfl rfl rfl rfl (gn rfl rfl rfl rfl (gn rfl rfl rfl rfl (xo (q_pick_f rfl rfl rfl) rfl (xs rfl rfl (nl (et (ev_ret (evr_blk (evr_then (ret_pure' ttOk rfl rfl (congrArg bR (?_ : _ = _))))))))))))))))))))))
     simp_all [opOk]
   ·try have d9 := of_decide_eq_false h9
    refine sq (rg (xb ttOk rfl rfl (xs rfl rfl (nl (et (ev_cond rfl (fun h13 => ?_) (fun h13 => ?_)))))))
    ·try have d13 := of_decide_eq_true h13
     refine sq (rg (xf ttOk rfl rfl (xl ttOk rfl rfl (evl_call (nm := 69) (cf rfl) (c_idOk' _) (rs_of rfl) rfl rfl rfl (xm rfl rfl (evl_part rfl rfl (fun h14 => ?_) (fun h14 => ?_)))))))
     ·try have d14 := of_decide_eq_true h14
      refine go h14 rfl rfl (q_fieldAddr ttOk rfl) rfl (go h14 rfl rfl (q_load ttOk rfl) rfl (evl_callg rfl rfl h14 (nm := 73) (cf rfl) (c_between _ _ _) (rs_of rfl) rfl rfl rfl (xo (q_pick_t rfl h14 rfl) rfl (xm rfl rfl (evl_part rfl rfl (fun h15 => ?_) (fun h15 => ?_))))))
      ·try have d15 := of_decide_eq_true h15
       refine go h15 rfl rfl (q_fieldAddr ttOk rfl) rfl (go h15 rfl rfl (q_load ttOk rfl) rfl (go h15 rfl rfl (q_bin ttOk rfl) rfl (xo (q_pick_t rfl h15 rfl) rfl (xm rfl rfl (evl_part rfl rfl (fun h16 => ?_) (fun h16 => ?_))))))
       ·try have d16 := of_decide_eq_true h16
        refine go h16 rfl rfl (q_fieldAddr ttOk rfl) rfl (go h16 rfl rfl (q_load ttOk rfl) rfl (go h16 rfl rfl (q_bin ttOk rfl) rfl (xo (q_pick_t rfl h16 rfl) rfl (xs rfl rfl (nl (et (ev_ret (evr_blk (evr_then (ret_pure' ttOk rfl rfl (congrArg bR (?_ : _ = _))))))))))))
        simp_all [opOk]
       ·try have d16 := of_decide_eq_false h16
        refine gn h16 rfl rfl rfl (gn h16 rfl rfl rfl (gn h16 rfl rfl rfl (xo (q_pick_f rfl h16 rfl) rfl (xs rfl rfl (nl (et (ev_ret (evr_blk (evr_then (ret_pure' ttOk rfl rfl (congrArg bR (?_ : _ = _))))))))))))
        simp_all [opOk]
      ·try have d15 := of_decide_eq_false h15
       refine gn h15 rfl rfl rfl (gn h15 rfl rfl rfl (gn h15 rfl rfl rfl (xo (q_pick_f rfl h15 rfl) rfl (xm rfl rfl (gn rfl rfl rfl rfl (gn rfl rfl rfl rfl (gn rfl rfl rfl rfl (xo (q_pick_f rfl rfl rfl) rfl (xs rfl rfl (nl (et (ev_ret (evr_blk (evr_then (ret_pure' ttOk rfl rfl (congrArg bR (?_ : _ = _)))))))))))))))))
       simp_all [opOk]
     ·try have d14 := of_decide_eq_false h14
      refine gn h14 rfl rfl rfl (gn h14 rfl rfl rfl (gn h14 rfl rfl rfl (xo (q_pick_f rfl h14 rfl) rfl (xm rfl rfl (gn rfl rfl rfl rfl (gn rfl rfl rfl rfl (gn rfl rfl rfl rfl (xo (q_pick_f rfl rfl rfl) rfl (xm rfl rfl (gn rfl rfl rfl rfl (gn rfl rfl rfl rfl (gn rfl rfl rfl rfl (xo (q_pick_f rfl rfl rfl) rfl (xs rfl rfl (nl (et (ev_ret (evr_blk (evr_then (ret_pure' ttOk rfl rfl (congrArg bR (?_ : _ = _))))))))))))))))))))))
      simp_all [opOk]
    ·try have d13 := of_decide_eq_false h13
     refine sq (rg (xb ttOk rfl rfl (xs rfl rfl (nl (et (ev_cond rfl (fun h17 => ?_) (fun h17 => ?_)))))))
     ·try have d17 := of_decide_eq_true h17
      refine sq (rg (xf ttOk rfl rfl (xl ttOk rfl rfl (evl_call (nm := 89) (cf rfl) (c_between _ _ _) (rs_of rfl) rfl rfl rfl (xm rfl rfl (evl_part rfl rfl (fun h18 => ?_) (fun h18 => ?_)))))))
      ·try have d18 := of_decide_eq_true h18
       refine go h18 rfl rfl (q_fieldAddr ttOk rfl) rfl (go h18 rfl rfl (q_load ttOk rfl) rfl (go h18 rfl rfl (q_bin ttOk rfl) rfl (xo (q_pick_t rfl h18 rfl) rfl (xm rfl rfl (evl_part rfl rfl (fun h19 => ?_) (fun h19 => ?_))))))
       ·try have d19 := of_decide_eq_true h19
        refine go h19 rfl rfl (q_fieldAddr ttOk rfl) rfl (go h19 rfl rfl (q_load ttOk rfl) rfl (go h19 rfl rfl (q_bin ttOk rfl) rfl (xo (q_pick_t rfl h19 rfl) rfl (xm rfl rfl (evl_part rfl rfl (fun h20 => ?_) (fun h20 => ?_))))))
        ·try have d20 := of_decide_eq_true h20
         refine go h20 rfl rfl (q_fieldAddr ttOk rfl) rfl (go h20 rfl rfl (q_load ttOk rfl) rfl (go h20 rfl rfl (q_bin ttOk rfl) rfl (xo (q_pick_t rfl h20 rfl) rfl (xs rfl rfl (nl (et (ev_ret (evr_blk (evr_then (ret_pure' ttOk rfl rfl (congrArg bR (?_ : _ = _))))))))))))
         simp_all [opOk]
        ·try have d20 := of_decide_eq_false h20
         refine gn h20 rfl rfl rfl (gn h20 rfl rfl rfl (gn h20 rfl rfl rfl (xo (q_pick_f rfl h20 rfl) rfl (xs rfl rfl (nl (et (ev_ret (evr_blk (evr_then (ret_pure' ttOk rfl rfl (congrArg bR (?_ : _ = _))))))))))))
         simp_all [opOk]
       ·try have d19 := of_decide_eq_false h19
        refine gn h19 rfl rfl rfl (gn h19 rfl rfl rfl (gn h19 rfl rfl rfl (xo (q_pick_f rfl h19 rfl) rfl (xm rfl rfl (gn rfl rfl rfl rfl (gn rfl rfl rfl rfl (gn rfl rfl rfl rfl (xo (q_pick_f rfl rfl rfl) rfl (xs rfl rfl (nl (et (ev_ret (evr_blk (evr_then (ret_pure' ttOk rfl rfl (congrArg bR (?_ : _ = _)))))))))))))))))
        simp_all [opOk]
      ·try have d18 := of_decide_eq_false h18
       refine gn h18 rfl rfl rfl (gn h18 rfl rfl rfl (gn h18 rfl rfl rfl (xo (q_pick_f rfl h18 rfl) rfl (xm rfl rfl (gn rfl rfl rfl rfl (gn rfl rfl rfl rfl (gn rfl rfl rfl rfl (xo (q_pick_f rfl rfl rfl) rfl (xm rfl rfl (gn rfl rfl rfl rfl (gn rfl rfl rfl rfl (gn rfl rfl rfl rfl (xo (q_pick_f rfl rfl rfl) rfl (xs rfl rfl (nl (et (ev_ret (evr_blk (evr_then (ret_pure' ttOk rfl rfl (congrArg bR (?_ : _ = _))))))))))))))))))))))
       simp_all [opOk]
     ·try have d17 := of_decide_eq_false h17
      refine ev_skip (eb (et (sq (rg (xs rfl rfl (nl (et (ev_ret (ret_pure' ttOk rfl rfl (congrArg bR (?_ : _ = _)))))))))))
      simp_all [opOk]
theorem c_EntryOk (e : Entry) : Pure Tryz.prog 133 [many (entryC e)] (bR (entryOk e)) := by
 refine pure_intro (N := 26) Tryz.func133 rfl rfl rfl rfl (fun H w => ?_)
 refine sq (rg (evl_e (e_box rfl rfl rfl rfl) (xs rfl rfl (nl (et (sq (rg (xf ttOk rfl rfl (xl ttOk rfl rfl (evl_call (nm := 5) (cf rfl) (c_indexOk _) (rs_of rfl) rfl rfl rfl (xm rfl rfl (evl_part rfl rfl (fun h1 => ?_) (fun h1 => ?_)))))))))))))
 ·refine go h1 rfl rfl (q_fieldAddr ttOk rfl) rfl (go h1 rfl rfl (q_load ttOk rfl) rfl (evl_callg rfl rfl h1 (nm := 9) (cf rfl) (c_TimeOk _) (rs_of rfl) rfl rfl rfl (xo (q_pick_t rfl h1 rfl) rfl (xm rfl rfl (evl_part rfl rfl (fun h2 => ?_) (fun h2 => ?_))))))
  ·refine go h2 rfl rfl (q_fieldAddr ttOk rfl) rfl (go h2 rfl rfl (q_load ttOk rfl) rfl (evl_callg rfl rfl h2 (nm := 14) (cf rfl) (c_AskerOk _) (rs_of rfl) rfl rfl rfl (xo (q_pick_t rfl h2 rfl) rfl (xm rfl rfl (evl_part rfl rfl (fun h3 => ?_) (fun h3 => ?_))))))
   ·refine go h3 rfl rfl (q_fieldAddr ttOk rfl) rfl (go h3 rfl rfl (q_load ttOk rfl) rfl (evl_callg rfl rfl h3 (nm := 19) (cf rfl) (c_seqOk _) (rs_of rfl) rfl rfl rfl (xo (q_pick_t rfl h3 rfl) rfl (xm rfl rfl (evl_part rfl rfl (fun h4 => ?_) (fun h4 => ?_))))))
    ·refine go h4 rfl rfl (q_fieldAddr ttOk rfl) rfl (go h4 rfl rfl (q_load ttOk rfl) rfl (evl_callg rfl rfl h4 (nm := 24) (cf rfl) (c_OpOk _ _ _ _ _) (rs_of rfl) rfl rfl rfl (xo (q_pick_t rfl h4 rfl) rfl (xs rfl rfl (nl (et (ev_ret (ret_pure' ttOk rfl rfl (congrArg bR (?_ : _ = _))))))))))
     simp_all [entryOk]
    ·refine gn h4 rfl rfl rfl (gn h4 rfl rfl rfl (gn h4 rfl rfl rfl (xo (q_pick_f rfl h4 rfl) rfl (xs rfl rfl (nl (et (ev_ret (ret_pure' ttOk rfl rfl (congrArg bR (?_ : _ = _))))))))))
     simp_all [entryOk]
   ·refine gn h3 rfl rfl rfl (gn h3 rfl rfl rfl (gn h3 rfl rfl rfl (xo (q_pick_f rfl h3 rfl) rfl (xm rfl rfl (gn rfl rfl rfl rfl (gn rfl rfl rfl rfl (gn rfl rfl rfl rfl (xo (q_pick_f rfl rfl rfl) rfl (xs rfl rfl (nl (et (ev_ret (ret_pure' ttOk rfl rfl (congrArg bR (?_ : _ = _)))))))))))))))
    simp_all [entryOk]
  ·refine gn h2 rfl rfl rfl (gn h2 rfl rfl rfl (gn h2 rfl rfl rfl (xo (q_pick_f rfl h2 rfl) rfl (xm rfl rfl (gn rfl rfl rfl rfl (gn rfl rfl rfl rfl (gn rfl rfl rfl rfl (xo (q_pick_f rfl rfl rfl) rfl (xm rfl rfl (gn rfl rfl rfl rfl (gn rfl rfl rfl rfl (gn rfl rfl rfl rfl (xo (q_pick_f rfl rfl rfl) rfl (xs rfl rfl (nl (et (ev_ret (ret_pure' ttOk rfl rfl (congrArg bR (?_ : _ = _))))))))))))))))))))
   simp_all [entryOk]
 ·refine gn h1 rfl rfl rfl (gn h1 rfl rfl rfl (gn h1 rfl rfl rfl (xo (q_pick_f rfl h1 rfl) rfl (xm rfl rfl (gn rfl rfl rfl rfl (gn rfl rfl rfl rfl (gn rfl rfl rfl rfl (xo (q_pick_f rfl rfl rfl) rfl (xm rfl rfl (gn rfl rfl rfl rfl (gn rfl rfl rfl rfl (gn rfl rfl rfl rfl (xo (q_pick_f rfl rfl rfl) rfl (xm rfl rfl (gn rfl rfl rfl rfl (gn rfl rfl rfl rfl (gn rfl rfl rfl rfl (xo (q_pick_f rfl rfl rfl) rfl (xs rfl rfl (nl (et (ev_ret (ret_pure' ttOk rfl rfl (congrArg bR (?_ : _ = _)))))))))))))))))))))))))
  simp_all [entryOk]
theorem c_EntryOk' (e : Entry) : Pure Tryz.prog 55 [many (entryC e)] (bR (entryOk e)) := by
 refine pure_intro (N := 26) Tryz.func55 rfl rfl rfl rfl (fun H w => ?_)
 refine sq (rg (evl_e (e_box rfl rfl rfl rfl) (xs rfl rfl (nl (et (sq (rg (xf ttOk rfl rfl (xl ttOk rfl rfl (evl_call (nm := 5) (cf rfl) (c_indexOk' _) (rs_of rfl) rfl rfl rfl (xm rfl rfl (evl_part rfl rfl (fun h1 => ?_) (fun h1 => ?_)))))))))))))
 ·refine go h1 rfl rfl (q_fieldAddr ttOk rfl) rfl (go h1 rfl rfl (q_load ttOk rfl) rfl (evl_callg rfl rfl h1 (nm := 9) (cf rfl) (c_TimeOk' _) (rs_of rfl) rfl rfl rfl (xo (q_pick_t rfl h1 rfl) rfl (xm rfl rfl (evl_part rfl rfl (fun h2 => ?_) (fun h2 => ?_))))))
  ·refine go h2 rfl rfl (q_fieldAddr ttOk rfl) rfl (go h2 rfl rfl (q_load ttOk rfl) rfl (evl_callg rfl rfl h2 (nm := 14) (cf rfl) (c_AskerOk' _) (rs_of rfl) rfl rfl rfl (xo (q_pick_t rfl h2 rfl) rfl (xm rfl rfl (evl_part rfl rfl (fun h3 => ?_) (fun h3 => ?_))))))
   ·refine go h3 rfl rfl (q_fieldAddr ttOk rfl) rfl (go h3 rfl rfl (q_load ttOk rfl) rfl (evl_callg rfl rfl h3 (nm := 19) (cf rfl) (c_seqOk' _) (rs_of rfl) rfl rfl rfl (xo (q_pick_t rfl h3 rfl) rfl (xm rfl rfl (evl_part rfl rfl (fun h4 => ?_) (fun h4 => ?_))))))
    ·refine go h4 rfl rfl (q_fieldAddr ttOk rfl) rfl (go h4 rfl rfl (q_load ttOk rfl) rfl (evl_callg rfl rfl h4 (nm := 24) (cf rfl) (c_OpOk' _ _ _ _ _) (rs_of rfl) rfl rfl rfl (xo (q_pick_t rfl h4 rfl) rfl (xs rfl rfl (nl (et (ev_ret (ret_pure' ttOk rfl rfl (congrArg bR (?_ : _ = _))))))))))
     simp_all [entryOk]
    ·refine gn h4 rfl rfl rfl (gn h4 rfl rfl rfl (gn h4 rfl rfl rfl (xo (q_pick_f rfl h4 rfl) rfl (xs rfl rfl (nl (et (ev_ret (ret_pure' ttOk rfl rfl (congrArg bR (?_ : _ = _))))))))))
     simp_all [entryOk]
   ·refine gn h3 rfl rfl rfl (gn h3 rfl rfl rfl (gn h3 rfl rfl rfl (xo (q_pick_f rfl h3 rfl) rfl (xm rfl rfl (gn rfl rfl rfl rfl (gn rfl rfl rfl rfl (gn rfl rfl rfl rfl (xo (q_pick_f rfl rfl rfl) rfl (xs rfl rfl (nl (et (ev_ret (ret_pure' ttOk rfl rfl (congrArg bR (?_ : _ = _)))))))))))))))
    simp_all [entryOk]
  ·refine gn h2 rfl rfl rfl (gn h2 rfl rfl rfl (gn h2 rfl rfl rfl (xo (q_pick_f rfl h2 rfl) rfl (xm rfl rfl (gn rfl rfl rfl rfl (gn rfl rfl rfl rfl (gn rfl rfl rfl rfl (xo (q_pick_f rfl rfl rfl) rfl (xm rfl rfl (gn rfl rfl rfl rfl (gn rfl rfl rfl rfl (gn rfl rfl rfl rfl (xo (q_pick_f rfl rfl rfl) rfl (xs rfl rfl (nl (et (ev_ret (ret_pure' ttOk rfl rfl (congrArg bR (?_ : _ = _))))))))))))))))))))
   simp_all [entryOk]
 ·refine gn h1 rfl rfl rfl (gn h1 rfl rfl rfl (gn h1 rfl rfl rfl (xo (q_pick_f rfl h1 rfl) rfl (xm rfl rfl (gn rfl rfl rfl rfl (gn rfl rfl rfl rfl (gn rfl rfl rfl rfl (xo (q_pick_f rfl rfl rfl) rfl (xm rfl rfl (gn rfl rfl rfl rfl (gn rfl rfl rfl rfl (gn rfl rfl rfl rfl (xo (q_pick_f rfl rfl rfl) rfl (xm rfl rfl (gn rfl rfl rfl rfl (gn rfl rfl rfl rfl (gn rfl rfl rfl rfl (xo (q_pick_f rfl rfl rfl) rfl (xs rfl rfl (nl (et (ev_ret (ret_pure' ttOk rfl rfl (congrArg bR (?_ : _ = _)))))))))))))))))))))))))
  simp_all [entryOk]
theorem c_EntriesOk' (l : List Entry) : Pure Tryz.prog 42 [one (entries l)] (bR (entriesOk l)) := by
 refine pure_intro (N := 46) Tryz.func42 rfl rfl rfl rfl (fun H w => ?_)
 refine ev_lenm (t := 0) rfl (fun hL => ?_)
 refine sq (rg (xs rfl rfl (nl (et (sq (sq (rg (xm rfl rfl (xo (q_len_map ttOk rfl rfl) rfl (xb ttOk rfl rfl (nl (et (ev_cond rfl (fun h1 => ?_) (fun h1 => ?_))))))))))))))
 ·try have d1 := of_decide_eq_true h1
  refine sq (rg (xs rfl rfl (nl (et (ev_ret (evr_then (ret_pure' ttOk rfl rfl (congrArg bR (?_ : _ = _)))))))))
  first
  | exact (ents_long om).symm
  | exact (ents_no (k := k) om (es_no1 om ‹_›)).symm
  | exact (ents_no (k := k) om (es_no2 om om ‹_›)).symm
  | exact (ents_no (k := k) om (es_no3 om om ‹_›)).symm
  | exact (entriesOk_iff.2 ⟨by omega, fun q hq => p1 q om⟩).symm
 ·try have d1 := of_decide_eq_false h1
  refine ev_skip (et (sq (sq (rg (xm rfl rfl (xo (q_len_map ttOk rfl rfl) rfl (xm rfl rfl (nl (et (ev_blk (ev_loop (fun k : Nat => (⟨[(10, iV k), (8, cV (entries l)), (9, iV l.length), (0, cV (entries l))], [], [], []⟩ : St)) (fun k => k ≤ l.length ∧ ∀ q, q < k → entStep l q = true) (fun k => l.length - k) 0 [] (⟨by simp, by simp⟩) lei ?_)))))))))))
  intro k hp
  obtain ⟨p0, p1⟩ := hp
  show Ev _ _ _ _ (⟨[(10, iV k), (8, cV (entries l)), (9, iV l.length), (0, cV (entries l))], [], [], []⟩ : St)
  refine sq (rg (xb ttOk rfl rfl (nl (et (sq (ev_cond rfl (fun h2 => ?_) (fun h2 => ?_)))))))
  ·try have d2 := of_decide_eq_true h2
   refine ev_skip (et (sq (ev_blk (sq (rg (xm rfl rfl (xo (q_ix_map ttOk rfl rfl rfl rfl om) rfl (xl ttOk rfl rfl (evl_e (e_alloc ttOk rfl rfl rfl rfl) (xs rfl rfl (xst ttOk rfl rfl (nl (et (sq (ev_drawq [] mo (rk0 0 rfl (q_load ttOk rfl) rfl (rdk_one 1 kr (rdo_call (nm := 16) rfl trivial (cf rfl) (c_EntryOk' ⟨_, _, _, _, _, _, _, _, _⟩) (rs_of rfl) rfl rfl rfl (rk0 2 rfl (q_not rfl) rfl (rk0 3 rfl (q_move rfl) rfl (rdk_partn (t := 18) rfl (fun h3 => ?_) (fun h3 => ?_))))))))))))))))))))))
   ·try have d3 := of_decide_eq_false h3
    refine rdk_skip 4 rfl kr ⟨_, rfl, .inl ⟨_, rfl, (nt h3)⟩⟩ rfl (rdk_skip 5 rfl kr ⟨_, rfl, .inl ⟨_, rfl, (nt h3)⟩⟩ rfl (rdk_skip 6 rfl kr ⟨_, rfl, .inl ⟨_, rfl, (nt h3)⟩⟩ rfl (rdk_skip 7 rfl kr ⟨_, rfl, .inr rfl⟩ rfl (rdk_skip 8 rfl kr ⟨_, rfl, .inr rfl⟩ rfl (rdk_skip 9 rfl kr ⟨_, rfl, .inr rfl⟩ rfl (rdk_skip 10 rfl kr ⟨_, rfl, .inr rfl⟩ rfl (rdk_skip 11 rfl kr ⟨_, rfl, .inr rfl⟩ rfl (rdk_skip 12 rfl kr ⟨_, rfl, .inr rfl⟩ rfl (rdk_skip 13 rfl kr ⟨_, rfl, .inr rfl⟩ rfl (rdk_skip 14 rfl kr ⟨_, rfl, .inr rfl⟩ rfl (rdk_skip 15 rfl kr ⟨_, rfl, .inr rfl⟩ rfl (rdk_skip 16 rfl kr ⟨_, rfl, .inr rfl⟩ rfl (rdk_skip 17 rfl kr ⟨_, rfl, .inr rfl⟩ rfl (rdk_skip 18 rfl kr ⟨_, rfl, .inr rfl⟩ rfl (rdk_skip 19 rfl kr ⟨_, rfl, .inr rfl⟩ rfl (rdk_skip 20 rfl kr ⟨_, rfl, .inr rfl⟩ rfl (rdk_skip 21 rfl kr ⟨_, rfl, .inr rfl⟩ rfl (rdk_skip 22 rfl kr ⟨_, rfl, .inr rfl⟩ rfl (rdk_skip 23 rfl kr ⟨_, rfl, .inr rfl⟩ rfl (rdk_skip 24 rfl kr ⟨_, rfl, .inr rfl⟩ rfl (rdk_skip 25 rfl kr ⟨_, rfl, .inr rfl⟩ rfl (rdk_skip 26 rfl kr ⟨_, rfl, .inr rfl⟩ rfl (rdk_skip 27 rfl kr ⟨_, rfl, .inr rfl⟩ rfl (rdk_skip 28 rfl kr ⟨_, rfl, .inl ⟨_, rfl, (nt h3)⟩⟩ rfl (rk0 29 rfl (q_pick_t rfl (nt h3) rfl) rfl (rdk_endq kr (et (ev_cond_kt rfl rfl (sq (rg (xs rfl rfl (nl (et (ev_ret (evr_blk (evr_then (evr_then (evr_blk (evr_then (ret_pure' ttOk rfl rfl (congrArg bR (?_ : _ = _))))))))))))))))))))))))))))))))))))))))))
    first
    | exact (ents_long om).symm
    | exact (ents_no (k := k) om (es_no1 om ‹_›)).symm
    | exact (ents_no (k := k) om (es_no2 om om ‹_›)).symm
    | exact (ents_no (k := k) om (es_no3 om om ‹_›)).symm
    | exact (entriesOk_iff.2 ⟨by omega, fun q hq => p1 q om⟩).symm
   ·try have d3 := of_decide_eq_true h3
    refine rdk_take 4 rfl kr ⟨_, _, rfl, rfl, (nf h3)⟩ (q_move rfl) rfl (rdk_take 5 rfl kr ⟨_, _, rfl, rfl, (nf h3)⟩ (q_bin ttOk rfl) rfl (rdk_take 6 rfl kr ⟨_, _, rfl, rfl, (nf h3)⟩ (q_move rfl) rfl (rdk_part (t := 21) rfl (fun h4 => ?_) (fun h4 => ?_))))
    ·try have d4 := of_decide_eq_true h4
     refine rkt 7 rfl rfl rfl h4 (q_fieldAddr ttOk rfl) rfl (rkt 8 rfl rfl rfl h4 (q_load ttOk rfl) rfl (rkt 9 rfl rfl rfl h4 (q_move rfl) rfl (rkt 10 rfl rfl rfl h4 (q_move rfl) rfl (rkt 11 rfl rfl rfl h4 (q_ar rfl rfl rfl om) rfl (rkt 12 rfl rfl rfl h4 (q_ix_map (m := k - 1) ttOk rfl rfl rfl om om) rfl (rkt 13 rfl rfl rfl h4 (q_fieldAddr ttOk rfl) rfl (rkt 14 rfl rfl rfl h4 (q_load ttOk rfl) rfl (rkt 15 rfl rfl rfl h4 (q_ar rfl rfl rfl (es_bd (l := l) (k := k) p1 om om)) rfl (rkt 16 rfl rfl rfl h4 (q_bin ttOk rfl) rfl (rkt 17 rfl rfl rfl h4 (q_move rfl) rfl (rdk_part (t := 32) rfl (fun h5 => ?_) (fun h5 => ?_))))))))))))
     ·try have d5 := of_decide_eq_true h5
      refine rks 18 rfl rfl rfl h5 rfl (rks 19 rfl rfl rfl h5 rfl (rks 20 rfl rfl rfl h5 rfl (rks 21 rfl rfl rfl h5 rfl (rks 22 rfl rfl rfl h5 rfl (rks 23 rfl rfl rfl h5 rfl (rks 24 rfl rfl rfl h5 rfl (rks 25 rfl rfl rfl h5 rfl (rks 26 rfl rfl rfl h5 rfl (rkt 27 rfl rfl rfl h4 (q_pick_t rfl h5 rfl) rfl (rdk_take 28 rfl kr ⟨_, _, rfl, rfl, (nf h3)⟩ (q_pick_t rfl h4 rfl) rfl (rk0 29 rfl (q_pick_f rfl (nf h3) rfl) rfl (rdk_endq kr (et (ev_cond_kt rfl rfl (ev_pr [0, 2, 3, 4, 8, 9, 10, 11, 12, 13, 14, 15, 16, 17, 18, 19, 20, 21, 22, 23, 24, 25, 26, 27, 28, 29, 30, 31, 32, 33, 34, 35, 36, 37, 38, 39, 40, 41, 42, 43, 44, 45] rfl (sq (rg (xs rfl rfl (nl (et (ev_ret (evr_blk (evr_then (evr_then (evr_blk (evr_then (ret_pure' ttOk rfl rfl (congrArg bR (?_ : _ = _)))))))))))))))))))))))))))))
      first
      | exact (ents_long om).symm
      | exact (ents_no (k := k) om (es_no1 om ‹_›)).symm
      | exact (ents_no (k := k) om (es_no2 om om ‹_›)).symm
      | exact (ents_no (k := k) om (es_no3 om om ‹_›)).symm
      | exact (entriesOk_iff.2 ⟨by omega, fun q hq => p1 q om⟩).symm
     ·try have d5 := of_decide_eq_false h5
      refine rkt 18 rfl rfl rfl h5 (q_fieldAddr ttOk rfl) rfl (rkt 19 rfl rfl rfl h5 (q_load ttOk rfl) rfl (rkt 20 rfl rfl rfl h5 (q_move rfl) rfl (rkt 21 rfl rfl rfl h5 (q_move rfl) rfl (rkt 22 rfl rfl rfl h5 (q_ar rfl rfl rfl om) rfl (rkt 23 rfl rfl rfl h5 (q_ix_map (m := k - 1) ttOk rfl rfl rfl om om) rfl (rkt 24 rfl rfl rfl h5 (q_fieldAddr ttOk rfl) rfl (rkt 25 rfl rfl rfl h5 (q_load ttOk rfl) rfl (rkt 26 rfl rfl rfl h5 (q_bin ttOk rfl) rfl (rkt 27 rfl rfl rfl h4 (q_pick_f rfl h5 rfl) rfl (rdk_take 28 rfl kr ⟨_, _, rfl, rfl, (nf h3)⟩ (q_pick_t rfl h4 rfl) rfl (rk0 29 rfl (q_pick_f rfl (nf h3) rfl) rfl (rdk_endq kr (et (ev_cond rfl (fun h6 => ?_) (fun h6 => ?_)))))))))))))))
      ·try have d6 := of_decide_eq_true h6
       refine ev_pr [0, 2, 3, 4, 8, 9, 10, 11, 12, 13, 14, 15, 16, 17, 18, 19, 20, 21, 22, 23, 24, 25, 26, 27, 28, 29, 30, 31, 32, 33, 34, 35, 36, 37, 38, 39, 40, 41, 42, 43, 44, 45] rfl (sq (rg (xs rfl rfl (nl (et (ev_ret (evr_blk (evr_then (evr_then (evr_blk (evr_then (ret_pure' ttOk rfl rfl (congrArg bR (?_ : _ = _))))))))))))))
       first
       | exact (ents_long om).symm
       | exact (ents_no (k := k) om (es_no1 om ‹_›)).symm
       | exact (ents_no (k := k) om (es_no2 om om ‹_›)).symm
       | exact (ents_no (k := k) om (es_no3 om om ‹_›)).symm
       | exact (entriesOk_iff.2 ⟨by omega, fun q hq => p1 q om⟩).symm
      ·try have d6 := of_decide_eq_false h6
       refine ev_skip (eb (et (ev_pr [0, 2, 3, 4, 8, 9, 10, 11, 12, 13, 14, 15, 16, 17, 18, 19, 20, 21, 22, 23, 24, 25, 26, 27, 28, 29, 30, 31, 32, 33, 34, 35, 36, 37, 38, 39, 40, 41, 42, 43, 44, 45] rfl (rg (xa rfl rfl rfl om rfl (xm rfl rfl (nl (eve_round (k + 1) [] ?hp lei))))))))
       case hp => exact ⟨⟨by omega, es_next p1 (es_yes om ‹_› (by first | exact .inl om | exact .inr ⟨by omega, by omega, by omega⟩))⟩, by omega⟩
    ·try have d4 := of_decide_eq_false h4
     refine rks 7 rfl rfl rfl h4 rfl (rks 8 rfl rfl rfl h4 rfl (rks 9 rfl rfl rfl h4 rfl (rks 10 rfl rfl rfl h4 rfl (rks 11 rfl rfl rfl h4 rfl (rks 12 rfl rfl rfl h4 rfl (rks 13 rfl rfl rfl h4 rfl (rks 14 rfl rfl rfl h4 rfl (rks 15 rfl rfl rfl h4 rfl (rks 16 rfl rfl rfl h4 rfl (rks 17 rfl rfl rfl h4 rfl (rdk_skip 18 rfl kr ⟨_, rfl, .inr rfl⟩ rfl (rdk_skip 19 rfl kr ⟨_, rfl, .inr rfl⟩ rfl (rdk_skip 20 rfl kr ⟨_, rfl, .inr rfl⟩ rfl (rdk_skip 21 rfl kr ⟨_, rfl, .inr rfl⟩ rfl (rdk_skip 22 rfl kr ⟨_, rfl, .inr rfl⟩ rfl (rdk_skip 23 rfl kr ⟨_, rfl, .inr rfl⟩ rfl (rdk_skip 24 rfl kr ⟨_, rfl, .inr rfl⟩ rfl (rdk_skip 25 rfl kr ⟨_, rfl, .inr rfl⟩ rfl (rdk_skip 26 rfl kr ⟨_, rfl, .inr rfl⟩ rfl (rks 27 rfl rfl rfl h4 rfl (rdk_take 28 rfl kr ⟨_, _, rfl, rfl, (nf h3)⟩ (q_pick_f rfl h4 rfl) rfl (rk0 29 rfl (q_pick_f rfl (nf h3) rfl) rfl (rdk_endq kr (et (ev_cond_kf rfl rfl (ev_skip (eb (et (rg (xa rfl rfl rfl om rfl (xm rfl rfl (nl (eve_round (k + 1) [] ?hp lei)))))))))))))))))))))))))))))))))
     case hp => exact ⟨⟨by omega, es_next p1 (es_yes om ‹_› (by first | exact .inl om | exact .inr ⟨by omega, by omega, by omega⟩))⟩, by omega⟩
  ·try have d2 := of_decide_eq_false h2
   refine ev_exit (evx_then (evx_then (evx_hit (et (sq (rg (xs rfl rfl (nl (et (ev_ret (ret_pure' ttOk rfl rfl (congrArg bR (?_ : _ = _)))))))))))))
   first
   | exact (ents_long om).symm
   | exact (ents_no (k := k) om (es_no1 om ‹_›)).symm
   | exact (ents_no (k := k) om (es_no2 om om ‹_›)).symm
   | exact (ents_no (k := k) om (es_no3 om om ‹_›)).symm
   | exact (entriesOk_iff.2 ⟨by omega, fun q hq => p1 q om⟩).symm
theorem c_BookOk' (b : Book) : Pure Tryz.prog 16 [many (bookC b)] (bR (bookOk b)) := by
 refine pure_intro (N := 58) Tryz.func16 rfl rfl rfl rfl (fun H w => ?_)
 refine ev_lena (t := 0) 2 rfl rfl (fun hL => ?_)
 refine sq (rg (evl_e (e_box rfl rfl rfl rfl) (xs rfl rfl (nl (et (sq (sq (rg (xf ttOk rfl rfl (xl ttOk rfl rfl (evl_call (nm := 5) (cf rfl) (c_between _ _ _) (rs_of rfl) rfl rfl rfl (xo (q_not rfl) rfl (xm rfl rfl (evl_partn rfl rfl (fun h1 => ?_) (fun h1 => ?_)))))))))))))))
 try have d1 := of_decide_eq_false h1
 try have hb0 := inB_iff.1 h1
 refine gn (nt h1) rfl rfl rfl (gn (nt h1) rfl rfl rfl (gn (nt h1) rfl rfl rfl (gn (nt h1) rfl rfl rfl (xo (q_pick_t rfl (nt h1) rfl) rfl (xm rfl rfl (gn rfl rfl rfl rfl (gn rfl rfl rfl rfl (gn rfl rfl rfl rfl (gn rfl rfl rfl rfl (gu rfl rfl rfl (gu rfl rfl rfl (gu rfl rfl rfl (gn rfl rfl rfl rfl (xo (q_pick_t rfl rfl rfl) rfl (nl (et (ev_cond_kt rfl rfl (sq (rg (xs rfl rfl (nl (et (ev_ret (evr_then (ret_pure' ttOk rfl rfl (congrArg bR (?_ : _ = _)))))))))))))))))))))))))))
 rotate_left
 try have d1 := of_decide_eq_true h1
 try have hb0 := inB_iff.1 h1
 refine go (nf h1) rfl rfl (q_fieldAddr ttOk rfl) rfl (go (nf h1) rfl rfl (q_load ttOk rfl) rfl (evl_callg rfl rfl (nf h1) (nm := 10) (cf rfl) (c_TimeOk' _) (rs_of rfl) rfl rfl rfl (go (nf h1) rfl rfl (q_not rfl) rfl (xo (q_pick_f rfl (nf h1) rfl) rfl (xm rfl rfl (evl_partn rfl rfl (fun h2 => ?_) (fun h2 => ?_)))))))
 try have d2 := of_decide_eq_false h2
 refine gn (nt h2) rfl rfl rfl (gn (nt h2) rfl rfl rfl (gn (nt h2) rfl rfl rfl (gn (nt h2) rfl rfl rfl (gu rfl rfl rfl (gu rfl rfl rfl (gu rfl rfl rfl (gn (nt h2) rfl rfl rfl (xo (q_pick_t rfl (nt h2) rfl) rfl (nl (et (ev_cond_kt rfl rfl (sq (rg (xs rfl rfl (nl (et (ev_ret (evr_then (ret_pure' ttOk rfl rfl (congrArg bR (?_ : _ = _)))))))))))))))))))))
 rotate_left
 try have d2 := of_decide_eq_true h2
 refine go (nf h2) rfl rfl (q_fieldAddr ttOk rfl) rfl (go (nf h2) rfl rfl (q_load ttOk rfl) rfl (go (nf h2) rfl rfl (q_bin ttOk rfl) rfl (gm (nf h2) rfl rfl rfl rfl (evl_part rfl rfl (fun h3 => ?_) (fun h3 => ?_)))))
 try have d3 := of_decide_eq_true h3
 refine go h3 rfl rfl (q_fieldAddr ttOk rfl) rfl (go h3 rfl rfl (q_load ttOk rfl) rfl (go h3 rfl rfl (q_bin ttOk rfl) rfl (go (nf h2) rfl rfl (q_pick_t rfl h3 rfl) rfl (xo (q_pick_f rfl (nf h2) rfl) rfl (nl (et (ev_cond rfl (fun h4 => ?_) (fun h4 => ?_))))))))
 try have d4 := of_decide_eq_true h4
 refine sq (rg (xs rfl rfl (nl (et (ev_ret (evr_then (ret_pure' ttOk rfl rfl (congrArg bR (?_ : _ = _)))))))))
 rotate_left
 try have d4 := of_decide_eq_false h4
 refine ev_skip (et (sq (sq (rg (xf ttOk rfl rfl (xl ttOk rfl rfl (xo (q_len_map ttOk rfl rfl) rfl (xb ttOk rfl rfl (xm rfl rfl (evl_part rfl rfl (fun h5 => ?_) (fun h5 => ?_)))))))))))
 try have d5 := of_decide_eq_true h5
 refine gn h5 rfl rfl rfl (gn h5 rfl rfl rfl (gn h5 rfl rfl rfl (gn h5 rfl rfl rfl (xo (q_pick_t rfl h5 rfl) rfl (nl (et (ev_cond_kt rfl rfl (ev_pr [1, 2, 33, 34, 35, 36, 37, 38, 39, 40, 41, 42, 43, 44, 45, 46, 47, 48, 49, 50, 51, 52, 53, 54, 55, 56, 57] rfl (sq (rg (xs rfl rfl (nl (et (ev_ret (evr_then (ret_pure' ttOk rfl rfl (congrArg bR (?_ : _ = _))))))))))))))))))
 rotate_left
 try have d5 := of_decide_eq_false h5
 refine go h5 rfl rfl (q_fieldAddr ttOk rfl) rfl (go h5 rfl rfl (q_load ttOk rfl) rfl (evl_callg rfl rfl h5 (nm := 30) (cf rfl) (c_EntriesOk' b.entries) (rs_of rfl) rfl rfl rfl (go h5 rfl rfl (q_not rfl) rfl (xo (q_pick_f rfl h5 rfl) rfl (nl (et (ev_cond_n rfl (fun h6 => ?_) (fun h6 => ?_))))))))
 try have d6 := of_decide_eq_false h6
 refine ev_pr [1, 2, 33, 34, 35, 36, 37, 38, 39, 40, 41, 42, 43, 44, 45, 46, 47, 48, 49, 50, 51, 52, 53, 54, 55, 56, 57] rfl (sq (rg (xs rfl rfl (nl (et (ev_ret (evr_then (ret_pure' ttOk rfl rfl (congrArg bR (?_ : _ = _))))))))))
 rotate_left
 try have d6 := of_decide_eq_true h6
 refine ev_skip (et (ev_pr [1, 2, 33, 34, 35, 36, 37, 38, 39, 40, 41, 42, 43, 44, 45, 46, 47, 48, 49, 50, 51, 52, 53, 54, 55, 56, 57] rfl (sq (ev_drawq [] mo (rk0 0 rfl (q_fieldAddr ttOk rfl) rfl (rk0 1 rfl (q_load ttOk rfl) rfl (rk0 2 rfl (q_len_map ttOk rfl rfl) rfl (rk0 3 rfl (q_bin ttOk rfl) rfl (rk0 4 rfl (q_move rfl) rfl (rdk_part (t := 37) rfl (fun h7 => ?_) (fun h7 => ?_)))))))))))
 try have d7 := of_decide_eq_true h7
 refine rks 5 rfl rfl rfl h7 rfl (rks 6 rfl rfl rfl h7 rfl (rks 7 rfl rfl rfl h7 rfl (rks 8 rfl rfl rfl h7 rfl (rks 9 rfl rfl rfl h7 rfl (rks 10 rfl rfl rfl h7 rfl (rks 11 rfl rfl rfl h7 rfl (rks 12 rfl rfl rfl h7 rfl (rks 13 rfl rfl rfl h7 rfl (rks 14 rfl rfl rfl h7 rfl (rdk_skip 15 rfl kr ⟨_, rfl, .inr rfl⟩ rfl (rdk_skip 16 rfl kr ⟨_, rfl, .inr rfl⟩ rfl (rdk_skip 17 rfl kr ⟨_, rfl, .inr rfl⟩ rfl (rdk_skip 18 rfl kr ⟨_, rfl, .inr rfl⟩ rfl (rdk_skip 19 rfl kr ⟨_, rfl, .inr rfl⟩ rfl (rdk_skip 20 rfl kr ⟨_, rfl, .inr rfl⟩ rfl (rdk_skip 21 rfl kr ⟨_, rfl, .inr rfl⟩ rfl (rdk_skip 22 rfl kr ⟨_, rfl, .inr rfl⟩ rfl (rks 23 rfl rfl rfl h7 rfl (rk0 24 rfl (q_pick_t rfl h7 rfl) rfl (rk0 25 rfl (q_assign rfl) rfl (rdk_endq kr (et (ev_ret (ret_pure' ttOk rfl rfl (congrArg bR (?_ : _ = _))))))))))))))))))))))))))
 rotate_left
 try have d7 := of_decide_eq_false h7
 refine rkt 5 rfl rfl rfl h7 (q_fieldAddr ttOk rfl) rfl (rkt 6 rfl rfl rfl h7 (q_load ttOk rfl) rfl (rkt 7 rfl rfl rfl h7 (q_ix_map (m := 0) ttOk rfl rfl rfl om om) rfl (rkt 8 rfl rfl rfl h7 (q_fieldAddr ttOk rfl) rfl (rkt 9 rfl rfl rfl h7 (q_load ttOk rfl) rfl (rkt 10 rfl rfl rfl h7 (q_fieldAddr ttOk rfl) rfl (rkt 11 rfl rfl rfl h7 (q_load ttOk rfl) rfl (rkt 12 rfl rfl rfl h7 (q_ar rfl rfl rfl om) rfl (rkt 13 rfl rfl rfl h7 (q_bin ttOk rfl) rfl (rkt 14 rfl rfl rfl h7 (q_move rfl) rfl (rdk_part (t := 47) rfl (fun h8 => ?_) (fun h8 => ?_)))))))))))
 try have d8 := of_decide_eq_true h8
 refine rkt 15 rfl rfl rfl h8 (q_fieldAddr ttOk rfl) rfl (rkt 16 rfl rfl rfl h8 (q_load ttOk rfl) rfl (rkt 17 rfl rfl rfl h8 (q_ix_map (m := 0) ttOk rfl rfl rfl om om) rfl (rkt 18 rfl rfl rfl h8 (q_fieldAddr ttOk rfl) rfl (rkt 19 rfl rfl rfl h8 (q_load ttOk rfl) rfl (rkt 20 rfl rfl rfl h8 (q_fieldAddr ttOk rfl) rfl (rkt 21 rfl rfl rfl h8 (q_load ttOk rfl) rfl (rkt 22 rfl rfl rfl h8 (q_bin ttOk rfl) rfl (rkt 23 rfl rfl rfl h7 (q_pick_t rfl h8 rfl) rfl (rk0 24 rfl (q_pick_f rfl h7 rfl) rfl (rk0 25 rfl (q_assign rfl) rfl (rdk_endq kr (et (ev_ret (ret_pure' ttOk rfl rfl (congrArg bR (?_ : _ = _))))))))))))))))
 rotate_left
 try have d8 := of_decide_eq_false h8
 refine rks 15 rfl rfl rfl h8 rfl (rks 16 rfl rfl rfl h8 rfl (rks 17 rfl rfl rfl h8 rfl (rks 18 rfl rfl rfl h8 rfl (rks 19 rfl rfl rfl h8 rfl (rks 20 rfl rfl rfl h8 rfl (rks 21 rfl rfl rfl h8 rfl (rks 22 rfl rfl rfl h8 rfl (rkt 23 rfl rfl rfl h7 (q_pick_f rfl h8 rfl) rfl (rk0 24 rfl (q_pick_f rfl h7 rfl) rfl (rk0 25 rfl (q_assign rfl) rfl (rdk_endq kr (et (ev_ret (ret_pure' ttOk rfl rfl (congrArg bR (?_ : _ = _))))))))))))))))
 rotate_left
 try have d3 := of_decide_eq_false h3
 refine gn h3 rfl rfl rfl (gn h3 rfl rfl rfl (gn h3 rfl rfl rfl (go (nf h2) rfl rfl (q_pick_f rfl h3 rfl) rfl (xo (q_pick_f rfl (nf h2) rfl) rfl (nl (et (ev_cond_kf rfl rfl (ev_skip (et (sq (sq (rg (xf ttOk rfl rfl (xl ttOk rfl rfl (xo (q_len_map ttOk rfl rfl) rfl (xb ttOk rfl rfl (xm rfl rfl (evl_part rfl rfl (fun h9 => ?_) (fun h9 => ?_)))))))))))))))))))
 try have d9 := of_decide_eq_true h9
 refine gn h9 rfl rfl rfl (gn h9 rfl rfl rfl (gn h9 rfl rfl rfl (gn h9 rfl rfl rfl (xo (q_pick_t rfl h9 rfl) rfl (nl (et (ev_cond_kt rfl rfl (ev_pr [1, 2, 33, 34, 35, 36, 37, 38, 39, 40, 41, 42, 43, 44, 45, 46, 47, 48, 49, 50, 51, 52, 53, 54, 55, 56, 57] rfl (sq (rg (xs rfl rfl (nl (et (ev_ret (evr_then (ret_pure' ttOk rfl rfl (congrArg bR (?_ : _ = _))))))))))))))))))
 rotate_left
 try have d9 := of_decide_eq_false h9
 refine go h9 rfl rfl (q_fieldAddr ttOk rfl) rfl (go h9 rfl rfl (q_load ttOk rfl) rfl (evl_callg rfl rfl h9 (nm := 30) (cf rfl) (c_EntriesOk' b.entries) (rs_of rfl) rfl rfl rfl (go h9 rfl rfl (q_not rfl) rfl (xo (q_pick_f rfl h9 rfl) rfl (nl (et (ev_cond_n rfl (fun h10 => ?_) (fun h10 => ?_))))))))
 try have d10 := of_decide_eq_false h10
 refine ev_pr [1, 2, 33, 34, 35, 36, 37, 38, 39, 40, 41, 42, 43, 44, 45, 46, 47, 48, 49, 50, 51, 52, 53, 54, 55, 56, 57] rfl (sq (rg (xs rfl rfl (nl (et (ev_ret (evr_then (ret_pure' ttOk rfl rfl (congrArg bR (?_ : _ = _))))))))))
 rotate_left
 try have d10 := of_decide_eq_true h10
 refine ev_skip (et (ev_pr [1, 2, 33, 34, 35, 36, 37, 38, 39, 40, 41, 42, 43, 44, 45, 46, 47, 48, 49, 50, 51, 52, 53, 54, 55, 56, 57] rfl (sq (ev_drawq [] mo (rk0 0 rfl (q_fieldAddr ttOk rfl) rfl (rk0 1 rfl (q_load ttOk rfl) rfl (rk0 2 rfl (q_len_map ttOk rfl rfl) rfl (rk0 3 rfl (q_bin ttOk rfl) rfl (rk0 4 rfl (q_move rfl) rfl (rdk_part (t := 37) rfl (fun h11 => ?_) (fun h11 => ?_)))))))))))
 try have d11 := of_decide_eq_true h11
 refine rks 5 rfl rfl rfl h11 rfl (rks 6 rfl rfl rfl h11 rfl (rks 7 rfl rfl rfl h11 rfl (rks 8 rfl rfl rfl h11 rfl (rks 9 rfl rfl rfl h11 rfl (rks 10 rfl rfl rfl h11 rfl (rks 11 rfl rfl rfl h11 rfl (rks 12 rfl rfl rfl h11 rfl (rks 13 rfl rfl rfl h11 rfl (rks 14 rfl rfl rfl h11 rfl (rdk_skip 15 rfl kr ⟨_, rfl, .inr rfl⟩ rfl (rdk_skip 16 rfl kr ⟨_, rfl, .inr rfl⟩ rfl (rdk_skip 17 rfl kr ⟨_, rfl, .inr rfl⟩ rfl (rdk_skip 18 rfl kr ⟨_, rfl, .inr rfl⟩ rfl (rdk_skip 19 rfl kr ⟨_, rfl, .inr rfl⟩ rfl (rdk_skip 20 rfl kr ⟨_, rfl, .inr rfl⟩ rfl (rdk_skip 21 rfl kr ⟨_, rfl, .inr rfl⟩ rfl (rdk_skip 22 rfl kr ⟨_, rfl, .inr rfl⟩ rfl (rks 23 rfl rfl rfl h11 rfl (rk0 24 rfl (q_pick_t rfl h11 rfl) rfl (rk0 25 rfl (q_assign rfl) rfl (rdk_endq kr (et (ev_ret (ret_pure' ttOk rfl rfl (congrArg bR (?_ : _ = _))))))))))))))))))))))))))
 rotate_left
 try have d11 := of_decide_eq_false h11
 refine rkt 5 rfl rfl rfl h11 (q_fieldAddr ttOk rfl) rfl (rkt 6 rfl rfl rfl h11 (q_load ttOk rfl) rfl (rkt 7 rfl rfl rfl h11 (q_ix_map (m := 0) ttOk rfl rfl rfl om om) rfl (rkt 8 rfl rfl rfl h11 (q_fieldAddr ttOk rfl) rfl (rkt 9 rfl rfl rfl h11 (q_load ttOk rfl) rfl (rkt 10 rfl rfl rfl h11 (q_fieldAddr ttOk rfl) rfl (rkt 11 rfl rfl rfl h11 (q_load ttOk rfl) rfl (rkt 12 rfl rfl rfl h11 (q_ar rfl rfl rfl om) rfl (rkt 13 rfl rfl rfl h11 (q_bin ttOk rfl) rfl (rkt 14 rfl rfl rfl h11 (q_move rfl) rfl (rdk_part (t := 47) rfl (fun h12 => ?_) (fun h12 => ?_)))))))))))
 try have d12 := of_decide_eq_true h12
 refine rkt 15 rfl rfl rfl h12 (q_fieldAddr ttOk rfl) rfl (rkt 16 rfl rfl rfl h12 (q_load ttOk rfl) rfl (rkt 17 rfl rfl rfl h12 (q_ix_map (m := 0) ttOk rfl rfl rfl om om) rfl (rkt 18 rfl rfl rfl h12 (q_fieldAddr ttOk rfl) rfl (rkt 19 rfl rfl rfl h12 (q_load ttOk rfl) rfl (rkt 20 rfl rfl rfl h12 (q_fieldAddr ttOk rfl) rfl (rkt 21 rfl rfl rfl h12 (q_load ttOk rfl) rfl (rkt 22 rfl rfl rfl h12 (q_bin ttOk rfl) rfl (rkt 23 rfl rfl rfl h11 (q_pick_t rfl h12 rfl) rfl (rk0 24 rfl (q_pick_f rfl h11 rfl) rfl (rk0 25 rfl (q_assign rfl) rfl (rdk_endq kr (et (ev_ret (ret_pure' ttOk rfl rfl (congrArg bR (?_ : _ = _))))))))))))))))
 rotate_left
 try have d12 := of_decide_eq_false h12
 refine rks 15 rfl rfl rfl h12 rfl (rks 16 rfl rfl rfl h12 rfl (rks 17 rfl rfl rfl h12 rfl (rks 18 rfl rfl rfl h12 rfl (rks 19 rfl rfl rfl h12 rfl (rks 20 rfl rfl rfl h12 rfl (rks 21 rfl rfl rfl h12 rfl (rks 22 rfl rfl rfl h12 rfl (rkt 23 rfl rfl rfl h11 (q_pick_f rfl h12 rfl) rfl (rk0 24 rfl (q_pick_f rfl h11 rfl) rfl (rk0 25 rfl (q_assign rfl) rfl (rdk_endq kr (et (ev_ret (ret_pure' ttOk rfl rfl (congrArg bR (?_ : _ = _))))))))))))))))
 rotate_left
 all_goals
  first
  | (simp_all [bookOk]; done)
  | (simp_all [bookOk] <;> (intros; omega))
  | (have hcons : ∃ e es, b.entries = e :: es := by
       cases hb : b.entries with
       | nil => simp_all
       | cons e es => exact ⟨e, es, rfl⟩
     obtain ⟨e, es, hb⟩ := hcons
     simp_all [bookOk] <;> (intros; omega))
end Go.Proofs.YtahkjonokeifmaaGreat
