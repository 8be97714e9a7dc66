/- Walks of functions of the program, printed by a program of the prover. -/
import Derived.Test.YtahkjonokeifmaaGreatRaF8
import Derived.Test.YtahkjonokeifmaaGreatRaVN
namespace Go.Proofs.YtahkjonokeifmaaGreat
open Go.ChangeShapes Go.WideShapes Go.ChangeAt Go.RowKit
set_option linter.unusedVariables false
set_option linter.unusedSimpArgs false
set_option maxHeartbeats 1000000
set_option maxRecDepth 100000
attribute [local irreducible] EvL Ev EvE Quiet Eff Pure RDk RDb RDo
def askerOk (x : Int) : Bool := inB x 2 5
def seqOk (x : Int) : Bool := inB x 1 2000
def indexOk (x : Int) : Bool := inB x 1 2000
def timeOk (x : Int) : Bool := inB x 0 1000000
def markOk (m : Mark) : Bool := askerOk m.client && (seqOk m.seq && indexOk m.index)
def hasIx (l : List Mark) (q : Int) : Bool := l.any fun m => decide (m.index = q)
def overB (l : List Mark) (k : Nat) (m : Mark) : Bool := match k with
 | 0 => true
 | j + 1 => match l[j]? with
  | some p => decide (p.client < m.client)
  | none => true
def stepOk (l : List Mark) (k : Nat) : Bool := match l[k]? with
 | none => true
 | some m => markOk m && (!hasIx (l.take k) m.index && overB l k m)
def seenOk (l : List Mark) : Bool := (List.range l.length).all (stepOk l)
theorem step_at {l : List Mark} {k : Nat} (hk : k < l.length) : stepOk l k = (markOk l[k] && (!hasIx (l.take k) l[k].index && overB l k l[k])) := by simp [stepOk, List.getElem?_eq_getElem hk]
theorem seenOk_iff {l : List Mark} : seenOk l = true ↔ ∀ k, k < l.length → stepOk l k = true := by simp [seenOk]
theorem seen_no {l : List Mark} {k : Nat} (hk : k < l.length) (h : stepOk l k = false) : seenOk l = false := by
 cases h2 : seenOk l with
 | false => rfl
 | true => rw [seenOk_iff.1 h2 k hk] at h; cases h
theorem seen_clients {l : List Mark} {n : Nat} (hn : n ≤ l.length) (h : ∀ k, k < n → stepOk l k = true) : ∀ k (hk : k < l.length), k < n → (k : Int) + 2 ≤ l[k].client ∧ l[k].client ≤ 5 := by
 intro k
 induction k with
 | zero =>
  intro hk hkn
  have := h 0 hkn
  rw [step_at hk] at this
  simp only [markOk, askerOk, inB, Bool.and_eq_true, decide_eq_true_eq] at this
  omega
 | succ k ih =>
  intro hk hkn
  have h1 := h (k + 1) hkn
  have h2 := ih om om
  rw [step_at hk] at h1
  simp only [markOk, askerOk, inB, overB, List.getElem?_eq_getElem (show k < l.length by omega), Bool.and_eq_true, decide_eq_true_eq] at h1
  omega
theorem seen_len {l : List Mark} (h : seenOk l = true) : l.length ≤ 4 := by
 rcases Nat.lt_or_ge 4 l.length with h4 | h4
 ·have := seen_clients (Nat.le_refl _) (seenOk_iff.1 h) 4 h4 h4
  omega
 ·exact h4
theorem step_no1 {l : List Mark} {k : Nat} (hk : k < l.length) (h : askerOk l[k].client = false) : stepOk l k = false := by rw [step_at hk]; simp [markOk, h]
theorem step_no2 {l : List Mark} {k : Nat} (hk : k < l.length) (h : seqOk l[k].seq = false) : stepOk l k = false := by rw [step_at hk]; simp [markOk, h]
theorem step_no3 {l : List Mark} {k : Nat} (hk : k < l.length) (h : indexOk l[k].index = false) : stepOk l k = false := by rw [step_at hk]; simp [markOk, h]
theorem step_no4 {l : List Mark} {k : Nat} (hk : k < l.length) (h : hasIx (l.take k) l[k].index = true) : stepOk l k = false := by rw [step_at hk]; simp [h]
theorem step_no5 {l : List Mark} {k : Nat} (hk : k < l.length) (h0 : 0 < k) (h : l[k - 1].client ≥ l[k].client) : stepOk l k = false := by
 rw [step_at hk]
 obtain ⟨j, rfl⟩ : ∃ j, k = j + 1 := ⟨k - 1, by omega⟩
 have : overB l (j + 1) l[j + 1] = false := by
  simp only [overB, List.getElem?_eq_getElem (show j < l.length by omega), decide_eq_false_iff_not]
  simpa using h
 simp [this]
theorem step_yes {l : List Mark} {k : Nat} (hk : k < l.length) (h1 : askerOk l[k].client = true) (h2 : seqOk l[k].seq = true) (h3 : indexOk l[k].index = true) (h4 : hasIx (l.take k) l[k].index = false) (h5 : k = 0 ∨ ∃ h0 : 0 < k, l[k - 1].client < l[k].client) : stepOk l k = true := by
 rw [step_at hk]
 have : overB l k l[k] = true := by
  rcases h5 with rfl | ⟨h0, h5⟩
  ·rfl
  ·obtain ⟨j, rfl⟩ : ∃ j, k = j + 1 := ⟨k - 1, by omega⟩
   simp only [overB, List.getElem?_eq_getElem (show j < l.length by omega), decide_eq_true_eq]
   simpa using h5
 simp [markOk, h1, h2, h3, h4, this]
theorem upto_next {l : List Mark} {k : Nat} (h : ∀ q, q < k → stepOk l q = true) (hk : stepOk l k = true) : ∀ q, q < k + 1 → stepOk l q = true := fun q hq => by
 rcases Nat.lt_or_ge q k with h9 | h9
 ·exact h q h9
 ·rw [show q = k by omega]; exact hk
def lastF (l : List Mark) : Int := l.foldl (fun s m => max s m.index) 0
theorem last_next {l : List Mark} {k : Nat} {s : Int} (hk : k < l.length) (h : s = lastF (l.take k)) : max s l[k].index = lastF (l.take (k + 1)) := by
 rw [List.take_succ_eq_append_getElem hk, lastF, List.foldl_append, h]; rfl
theorem last_all {l : List Mark} {k : Nat} {s : Int} (hk : ¬ k < l.length) (h : s = lastF (l.take k)) : s = lastF l := by rw [h, List.take_of_length_le om]
theorem all_takeP {α : Type} {p : α → Prop} {l : List α} {k : Nat} (hk : k < l.length) (h : ∀ x ∈ l.take k, p x) (hf : p l[k]) : ∀ x ∈ l.take (k + 1), p x := by
 intro x hx
 rw [List.take_succ_eq_append_getElem hk] at hx
 rcases List.mem_append.1 hx with hx | hx
 ·exact h x hx
 ·rw [List.mem_singleton.1 hx]; exact hf
theorem has_next {l : List Mark} {k : Nat} {q : Int} (hk : k < l.length) : hasIx (l.take (k + 1)) q = (hasIx (l.take k) q || decide (l[k].index = q)) := by
 unfold hasIx
 rw [List.take_succ_eq_append_getElem hk, List.any_append]
 simp only [List.any_cons, List.any_nil, Bool.or_false]
theorem has_at {l : List Mark} {k j : Nat} (hk : k < l.length) (hj : j < k) (h : l[j].index = l[k].index) : hasIx (l.take k) l[k].index = true := by
 unfold hasIx
 rw [List.any_eq_true]
 exact ⟨l[j], List.mem_iff_getElem.2 ⟨j, by rw [List.length_take]; omega, by rw [List.getElem_take]⟩, by simpa using h⟩
theorem has_none {l : List Mark} {k j : Nat} {x : Int} (hj : j = k) (h : ∀ m ∈ l.take j, m.index ≠ x) : hasIx (l.take k) x = false := by
 subst hj
 unfold hasIx
 rw [List.any_eq_false]
 intro m hm
 simpa using h m hm
theorem c_AskerOk (x : Int) : Pure Tryz.prog 122 [one (iC x)] (bR (askerOk x)) := by
 refine pure_intro (N := 5) Tryz.func122 rfl rfl rfl rfl (fun H w => ?_)
 refine sq (rg (xs rfl rfl (nl (et (sq (rg (xm rfl rfl (evl_call (nm := 4) (cf rfl) (c_l1In _ _ _) (rs_of rfl) rfl rfl rfl (xs rfl rfl (nl (et (ev_ret (ret_pure' ttOk rfl rfl ?_)))))))))))))
 rfl
theorem c_AskerOk' (x : Int) : Pure Tryz.prog 68 [one (iC x)] (bR (askerOk x)) := by
 refine pure_intro (N := 5) Tryz.func68 rfl rfl rfl rfl (fun H w => ?_)
 refine sq (rg (xs rfl rfl (nl (et (sq (rg (xm rfl rfl (evl_call (nm := 4) (cf rfl) (c_between _ _ _) (rs_of rfl) rfl rfl rfl (xs rfl rfl (nl (et (ev_ret (ret_pure' ttOk rfl rfl ?_)))))))))))))
 rfl
theorem c_seqOk (x : Int) : Pure Tryz.prog 123 [one (iC x)] (bR (seqOk x)) := by
 refine pure_intro (N := 5) Tryz.func123 rfl rfl rfl rfl (fun H w => ?_)
 refine sq (rg (xs rfl rfl (nl (et (sq (rg (xm rfl rfl (evl_call (nm := 4) (cf rfl) (c_l1In _ _ _) (rs_of rfl) rfl rfl rfl (xs rfl rfl (nl (et (ev_ret (ret_pure' ttOk rfl rfl ?_)))))))))))))
 rfl
theorem c_seqOk' (x : Int) : Pure Tryz.prog 69 [one (iC x)] (bR (seqOk x)) := by
 refine pure_intro (N := 5) Tryz.func69 rfl rfl rfl rfl (fun H w => ?_)
 refine sq (rg (xs rfl rfl (nl (et (sq (rg (xm rfl rfl (evl_call (nm := 4) (cf rfl) (c_between _ _ _) (rs_of rfl) rfl rfl rfl (xs rfl rfl (nl (et (ev_ret (ret_pure' ttOk rfl rfl ?_)))))))))))))
 rfl
theorem c_indexOk (x : Int) : Pure Tryz.prog 124 [one (iC x)] (bR (indexOk x)) := by
 refine pure_intro (N := 5) Tryz.func124 rfl rfl rfl rfl (fun H w => ?_)
 refine sq (rg (xs rfl rfl (nl (et (sq (rg (xm rfl rfl (evl_call (nm := 4) (cf rfl) (c_l1In _ _ _) (rs_of rfl) rfl rfl rfl (xs rfl rfl (nl (et (ev_ret (ret_pure' ttOk rfl rfl ?_)))))))))))))
 rfl
theorem c_indexOk' (x : Int) : Pure Tryz.prog 70 [one (iC x)] (bR (indexOk x)) := by
 refine pure_intro (N := 5) Tryz.func70 rfl rfl rfl rfl (fun H w => ?_)
 refine sq (rg (xs rfl rfl (nl (et (sq (rg (xm rfl rfl (evl_call (nm := 4) (cf rfl) (c_between _ _ _) (rs_of rfl) rfl rfl rfl (xs rfl rfl (nl (et (ev_ret (ret_pure' ttOk rfl rfl ?_)))))))))))))
 rfl
theorem c_TimeOk (x : Int) : Pure Tryz.prog 93 [one (iC x)] (bR (timeOk x)) := by
 refine pure_intro (N := 5) Tryz.func93 rfl rfl rfl rfl (fun H w => ?_)
 refine sq (rg (xs rfl rfl (nl (et (sq (rg (xm rfl rfl (evl_call (nm := 4) (cf rfl) (c_l1In _ _ _) (rs_of rfl) rfl rfl rfl (xs rfl rfl (nl (et (ev_ret (ret_pure' ttOk rfl rfl ?_)))))))))))))
 rfl
theorem c_TimeOk' (x : Int) : Pure Tryz.prog 39 [one (iC x)] (bR (timeOk x)) := by
 refine pure_intro (N := 5) Tryz.func39 rfl rfl rfl rfl (fun H w => ?_)
 refine sq (rg (xs rfl rfl (nl (et (sq (rg (xm rfl rfl (evl_call (nm := 4) (cf rfl) (c_between _ _ _) (rs_of rfl) rfl rfl rfl (xs rfl rfl (nl (et (ev_ret (ret_pure' ttOk rfl rfl ?_)))))))))))))
 rfl
theorem c_lastSeen (l : List Mark) : Pure Tryz.prog 41 [one (marks l)] (iR (lastF l)) := by
 refine pure_intro (N := 18) Tryz.func41 rfl rfl rfl rfl (fun H w => ?_)
 refine ev_lenm (t := 0) rfl (fun hL => ?_)
 refine sq (rg (xs rfl rfl (nl (et (sq (rg (xs rfl rfl (nl (et (sq (sq (rg (xm rfl rfl (xo (q_len_map ttOk rfl rfl) rfl (xm rfl rfl (nl (et (ev_blk (ev_loop (fun i : Nat × Int => (⟨[(8, iV i.1), (6, cV (marks l)), (7, iV l.length), (3, iV i.2)], [], [], []⟩ : St)) (fun i => i.1 ≤ l.length ∧ i.2 = lastF (l.take i.1)) (fun i => l.length - i.1) (0, 0) [] (⟨by simp, rfl⟩) lei ?_)))))))))))))))))))
 intro i hp
 obtain ⟨k, s⟩ := i
 have hp : k ≤ l.length ∧ s = lastF (l.take k) := hp
 obtain ⟨p0, p1⟩ := hp
 show Ev _ _ _ _ (⟨[(8, iV k), (6, cV (marks l)), (7, iV l.length), (3, iV s)], [], [], []⟩ : St)
 refine sq (rg (xb ttOk rfl rfl (nl (et (sq (ev_cond rfl (fun h1 => ?_) (fun h1 => ?_)))))))
 ·have d1 := of_decide_eq_true h1
  refine ev_skip (et (sq (ev_blk (sq (rg (xo (q_ix_map ttOk rfl rfl rfl rfl om) rfl (xl ttOk rfl rfl (evl_e (e_alloc ttOk rfl rfl rfl rfl) (xst ttOk rfl rfl (nl (et (rg (xm rfl rfl (xf ttOk rfl rfl (xl ttOk rfl rfl (xo (q_max rfl rfl) rfl (xs rfl rfl (nl (eb (et (rg (xa rfl rfl rfl om rfl (xm rfl rfl (nl (eve_round (k + 1, _) [] ?hp lei)))))))))))))))))))))))))
  case hp => exact ⟨⟨by omega, last_next om p1⟩, by omega⟩
 ·have d1 := of_decide_eq_false h1
  refine ev_exit (evx_then (evx_then (evx_hit (et (sq (rg (xm rfl rfl (xs rfl rfl (nl (et (ev_ret (ret_pure' ttOk rfl rfl ?_))))))))))))
  rw [last_all om p1]
theorem c_l1Max (x y : Int) : Pure Tryz.prog 106 [one (iC x), one (iC y)] (iR (max x y)) := by
 refine pure_intro (N := 10) Tryz.func106 rfl rfl rfl rfl (fun H w => ?_)
 refine sq (rg (xs rfl rfl (nl (et (sq (sq (rg (xm rfl rfl (xm rfl rfl (xb ttOk rfl rfl (nl (et (ev_cond rfl (fun h1 => ?_) (fun h1 => ?_))))))))))))))
 ·have d1 := of_decide_eq_true h1
  refine sq (rg (xm rfl rfl (xs rfl rfl (nl (et (ev_ret (evr_then (ret_pure' ttOk rfl rfl ?_))))))))
  rw [show max x y = x by omega]
 ·have d1 := of_decide_eq_false h1
  refine ev_skip (et (sq (rg (xm rfl rfl (xs rfl rfl (nl (et (ev_ret (ret_pure' ttOk rfl rfl ?_)))))))))
  rw [show max x y = y by omega]
theorem c_SeenOk (l : List Mark) : Pure Tryz.prog 94 [one (marks l)] (bR (seenOk l)) := by
 refine pure_intro (N := 73) Tryz.func94 rfl rfl rfl rfl (fun H w => ?_)
 refine ev_lenm (t := 0) rfl (fun hL => ?_)
 refine sq (rg (xs rfl rfl (nl (et (sq (sq (rg (xm rfl rfl (xo (q_len_map ttOk rfl rfl) rfl (xb ttOk rfl rfl (nl (et (ev_cond rfl (fun h1 => ?_) (fun h1 => ?_))))))))))))))
 try have d1 := of_decide_eq_true h1
 refine sq (rg (xs rfl rfl (nl (et (ev_ret (evr_then (ret_pure' ttOk rfl rfl (congrArg bR (?_ : _ = _)))))))))
 rotate_left
 try have d1 := of_decide_eq_false h1
 refine ev_skip (et (sq (sq (rg (xs rfl rfl (nl (et (ev_blk (ev_loop (fun k : Nat => (⟨[(3, iV k), (0, cV (marks l))], [], [], []⟩ : St)) (fun k => k ≤ l.length ∧ ∀ q, q < k → stepOk l q = true) (fun k => l.length - k) 0 [] (⟨by simp, by simp⟩) lei ?_)))))))))
 intro k hp
 obtain ⟨p0, p1⟩ := hp
 show Ev _ _ _ _ (⟨[(3, iV k), (0, cV (marks l))], [], [], []⟩ : St)
 refine sq (sq (rg (xm rfl rfl (xm rfl rfl (xo (q_len_map ttOk rfl rfl) rfl (xb ttOk rfl rfl (nl (et (ev_cond rfl (fun h2 => ?_) (fun h2 => ?_))))))))))
 try have d2 := of_decide_eq_true h2
 refine ev_skip (et (sq (ev_blk (sq (sq (ev_drawq [] mo (rk0 0 rfl (q_move rfl) rfl (rk0 1 rfl (q_move rfl) rfl (rk0 2 rfl (q_ix_map ttOk rfl rfl rfl rfl om) rfl (rk0 3 rfl (q_fieldAddr ttOk rfl) rfl (rk0 4 rfl (q_load ttOk rfl) rfl (rdk_one 5 kr (rdo_call (nm := 19) rfl trivial (cf rfl) (c_AskerOk _) (rs_of rfl) rfl rfl rfl (rk0 6 rfl (q_not rfl) rfl (rk0 7 rfl (q_move rfl) rfl (rdk_partn (t := 21) rfl (fun h3 => ?_) (fun h3 => ?_)))))))))))))))))
 try have d3 := of_decide_eq_false h3
 refine rdk_skip 8 rfl kr ⟨_, rfl, .inl ⟨_, rfl, (nt h3)⟩⟩ rfl (rdk_skip 9 rfl kr ⟨_, rfl, .inl ⟨_, rfl, (nt h3)⟩⟩ rfl (rdk_skip 10 rfl kr ⟨_, rfl, .inl ⟨_, rfl, (nt h3)⟩⟩ rfl (rdk_skip 11 rfl kr ⟨_, rfl, .inl ⟨_, rfl, (nt h3)⟩⟩ rfl (rdk_skip 12 rfl kr ⟨_, rfl, .inl ⟨_, rfl, (nt h3)⟩⟩ rfl (rdk_skip 13 rfl kr ⟨_, rfl, .inl ⟨_, rfl, (nt h3)⟩⟩ rfl (rdk_skip 14 rfl kr ⟨_, rfl, .inl ⟨_, rfl, (nt h3)⟩⟩ rfl (rk0 15 rfl (q_pick_t rfl (nt h3) rfl) rfl (rk0 16 rfl (q_move rfl) rfl (rks 17 rfl rfl rfl rfl rfl (rks 18 rfl rfl rfl rfl rfl (rks 19 rfl rfl rfl rfl rfl (rks 20 rfl rfl rfl rfl rfl (rks 21 rfl rfl rfl rfl rfl (rks 22 rfl rfl rfl rfl rfl (rks 23 rfl rfl rfl rfl rfl (rk0 24 rfl (q_pick_t rfl rfl rfl) rfl (rk0 25 rfl (q_move rfl) rfl (rks 26 rfl rfl rfl rfl rfl (rks 27 rfl rfl rfl rfl rfl (rks 28 rfl rfl rfl rfl rfl (rdk_skip 29 rfl kr ⟨_, rfl, .inr rfl⟩ rfl (rdk_skip 30 rfl kr ⟨_, rfl, .inr rfl⟩ rfl (rdk_skip 31 rfl kr ⟨_, rfl, .inr rfl⟩ rfl (rdk_skip 32 rfl kr ⟨_, rfl, .inr rfl⟩ rfl (rdk_skip 33 rfl kr ⟨_, rfl, .inr rfl⟩ rfl (rdk_skip 34 rfl kr ⟨_, rfl, .inr rfl⟩ rfl (rdk_skip 35 rfl kr ⟨_, rfl, .inr rfl⟩ rfl (rdk_skip 36 rfl kr ⟨_, rfl, .inr rfl⟩ rfl (rdk_skip 37 rfl kr ⟨_, rfl, .inr rfl⟩ rfl (rdk_skip 38 rfl kr ⟨_, rfl, .inr rfl⟩ rfl (rdk_skip 39 rfl kr ⟨_, rfl, .inr rfl⟩ rfl (rdk_skip 40 rfl kr ⟨_, rfl, .inr rfl⟩ rfl (rks 41 rfl rfl rfl rfl rfl (rk0 42 rfl (q_pick_t rfl rfl rfl) rfl (rdk_endq kr (et (ev_cond_kt rfl rfl (sq (rg (xs rfl rfl (nl (et (ev_ret (evr_then (evr_blk (evr_then (evr_then (evr_blk (evr_then (ret_pure' ttOk rfl rfl ?_))))))))))))))))))))))))))))))))))))))))))))))))))
 refine congrArg bR (?_ : _ = _)
 rotate_left
 try have d3 := of_decide_eq_true h3
 refine rdk_take 8 rfl kr ⟨_, _, rfl, rfl, (nf h3)⟩ (q_move rfl) rfl (rdk_take 9 rfl kr ⟨_, _, rfl, rfl, (nf h3)⟩ (q_move rfl) rfl (rdk_take 10 rfl kr ⟨_, _, rfl, rfl, (nf h3)⟩ (q_ix_map ttOk rfl rfl rfl rfl om) rfl (rdk_take 11 rfl kr ⟨_, _, rfl, rfl, (nf h3)⟩ (q_fieldAddr ttOk rfl) rfl (rdk_take 12 rfl kr ⟨_, _, rfl, rfl, (nf h3)⟩ (q_load ttOk rfl) rfl (rdk_one 13 kr (rdo_call (nm := 27) rfl ⟨_, _, rfl, rfl, (nf h3)⟩ (cf rfl) (c_seqOk _) (rs_of rfl) rfl rfl rfl (rdk_take 14 rfl kr ⟨_, _, rfl, rfl, (nf h3)⟩ (q_not rfl) rfl (rk0 15 rfl (q_pick_f rfl (nf h3) rfl) rfl (rk0 16 rfl (q_move rfl) rfl (rdk_partn (t := 30) rfl (fun h4 => ?_) (fun h4 => ?_)))))))))))
 try have d4 := of_decide_eq_false h4
 refine rdk_skip 17 rfl kr ⟨_, rfl, .inl ⟨_, rfl, (nt h4)⟩⟩ rfl (rdk_skip 18 rfl kr ⟨_, rfl, .inl ⟨_, rfl, (nt h4)⟩⟩ rfl (rdk_skip 19 rfl kr ⟨_, rfl, .inl ⟨_, rfl, (nt h4)⟩⟩ rfl (rdk_skip 20 rfl kr ⟨_, rfl, .inl ⟨_, rfl, (nt h4)⟩⟩ rfl (rdk_skip 21 rfl kr ⟨_, rfl, .inl ⟨_, rfl, (nt h4)⟩⟩ rfl (rdk_skip 22 rfl kr ⟨_, rfl, .inl ⟨_, rfl, (nt h4)⟩⟩ rfl (rdk_skip 23 rfl kr ⟨_, rfl, .inl ⟨_, rfl, (nt h4)⟩⟩ rfl (rk0 24 rfl (q_pick_t rfl (nt h4) rfl) rfl (rk0 25 rfl (q_move rfl) rfl (rks 26 rfl rfl rfl rfl rfl (rks 27 rfl rfl rfl rfl rfl (rks 28 rfl rfl rfl rfl rfl (rdk_skip 29 rfl kr ⟨_, rfl, .inr rfl⟩ rfl (rdk_skip 30 rfl kr ⟨_, rfl, .inr rfl⟩ rfl (rdk_skip 31 rfl kr ⟨_, rfl, .inr rfl⟩ rfl (rdk_skip 32 rfl kr ⟨_, rfl, .inr rfl⟩ rfl (rdk_skip 33 rfl kr ⟨_, rfl, .inr rfl⟩ rfl (rdk_skip 34 rfl kr ⟨_, rfl, .inr rfl⟩ rfl (rdk_skip 35 rfl kr ⟨_, rfl, .inr rfl⟩ rfl (rdk_skip 36 rfl kr ⟨_, rfl, .inr rfl⟩ rfl (rdk_skip 37 rfl kr ⟨_, rfl, .inr rfl⟩ rfl (rdk_skip 38 rfl kr ⟨_, rfl, .inr rfl⟩ rfl (rdk_skip 39 rfl kr ⟨_, rfl, .inr rfl⟩ rfl (rdk_skip 40 rfl kr ⟨_, rfl, .inr rfl⟩ rfl (rks 41 rfl rfl rfl rfl rfl (rk0 42 rfl (q_pick_t rfl rfl rfl) rfl (rdk_endq kr (et (ev_cond_kt rfl rfl (sq (rg (xs rfl rfl (nl (et (ev_ret (evr_then (evr_blk (evr_then (evr_then (evr_blk (evr_then (ret_pure' ttOk rfl rfl (congrArg bR (?_ : _ = _)))))))))))))))))))))))))))))))))))))))))))
 rotate_left
 try have d4 := of_decide_eq_true h4
 refine rdk_take 17 rfl kr ⟨_, _, rfl, rfl, (nf h4)⟩ (q_move rfl) rfl (rdk_take 18 rfl kr ⟨_, _, rfl, rfl, (nf h4)⟩ (q_move rfl) rfl (rdk_take 19 rfl kr ⟨_, _, rfl, rfl, (nf h4)⟩ (q_ix_map ttOk rfl rfl rfl rfl om) rfl (rdk_take 20 rfl kr ⟨_, _, rfl, rfl, (nf h4)⟩ (q_fieldAddr ttOk rfl) rfl (rdk_take 21 rfl kr ⟨_, _, rfl, rfl, (nf h4)⟩ (q_load ttOk rfl) rfl (rdk_one 22 kr (rdo_call (nm := 36) rfl ⟨_, _, rfl, rfl, (nf h4)⟩ (cf rfl) (c_indexOk _) (rs_of rfl) rfl rfl rfl (rdk_take 23 rfl kr ⟨_, _, rfl, rfl, (nf h4)⟩ (q_not rfl) rfl (rk0 24 rfl (q_pick_f rfl (nf h4) rfl) rfl (rk0 25 rfl (q_move rfl) rfl (rdk_partn (t := 39) rfl (fun h5 => ?_) (fun h5 => ?_)))))))))))
 try have d5 := of_decide_eq_false h5
 refine rdk_skip 26 rfl kr ⟨_, rfl, .inl ⟨_, rfl, (nt h5)⟩⟩ rfl (rdk_skip 27 rfl kr ⟨_, rfl, .inl ⟨_, rfl, (nt h5)⟩⟩ rfl (rdk_skip 28 rfl kr ⟨_, rfl, .inl ⟨_, rfl, (nt h5)⟩⟩ rfl (rdk_skip 29 rfl kr ⟨_, rfl, .inr rfl⟩ rfl (rdk_skip 30 rfl kr ⟨_, rfl, .inr rfl⟩ rfl (rdk_skip 31 rfl kr ⟨_, rfl, .inr rfl⟩ rfl (rdk_skip 32 rfl kr ⟨_, rfl, .inr rfl⟩ rfl (rdk_skip 33 rfl kr ⟨_, rfl, .inr rfl⟩ rfl (rdk_skip 34 rfl kr ⟨_, rfl, .inr rfl⟩ rfl (rdk_skip 35 rfl kr ⟨_, rfl, .inr rfl⟩ rfl (rdk_skip 36 rfl kr ⟨_, rfl, .inr rfl⟩ rfl (rdk_skip 37 rfl kr ⟨_, rfl, .inr rfl⟩ rfl (rdk_skip 38 rfl kr ⟨_, rfl, .inr rfl⟩ rfl (rdk_skip 39 rfl kr ⟨_, rfl, .inr rfl⟩ rfl (rdk_skip 40 rfl kr ⟨_, rfl, .inr rfl⟩ rfl (rdk_skip 41 rfl kr ⟨_, rfl, .inl ⟨_, rfl, (nt h5)⟩⟩ rfl (rk0 42 rfl (q_pick_t rfl (nt h5) rfl) rfl (rdk_endq kr (et (ev_cond_kt rfl rfl (ev_pr [0, 2, 3, 4, 8, 9, 10, 11, 12, 13, 14, 15, 16, 17, 18, 19, 20, 21, 22, 23, 24, 25, 26, 27, 28, 29, 30, 31, 32, 33, 34, 35, 36, 37, 38, 39, 40, 41, 42, 43, 44, 45, 46, 47, 48, 49, 50, 51, 52, 53, 54, 55, 56, 57, 58, 59, 60, 61, 62, 63, 64, 65, 66, 67, 68, 69, 70, 71, 72] rfl (sq (rg (xs rfl rfl (nl (et (ev_ret (evr_then (evr_blk (evr_then (evr_then (evr_blk (evr_then (ret_pure' ttOk rfl rfl (congrArg bR (?_ : _ = _)))))))))))))))))))))))))))))))))))
 rotate_left
 try have d5 := of_decide_eq_true h5
 refine rdk_take 26 rfl kr ⟨_, _, rfl, rfl, (nf h5)⟩ (q_move rfl) rfl (rdk_take 27 rfl kr ⟨_, _, rfl, rfl, (nf h5)⟩ (q_bin ttOk rfl) rfl (rdk_take 28 rfl kr ⟨_, _, rfl, rfl, (nf h5)⟩ (q_move rfl) rfl (rdk_part (t := 42) rfl (fun h6 => ?_) (fun h6 => ?_))))
 try have d6 := of_decide_eq_true h6
 refine rkt 29 rfl rfl rfl h6 (q_move rfl) rfl (rkt 30 rfl rfl rfl h6 (q_move rfl) rfl (rkt 31 rfl rfl rfl h6 (q_ar rfl rfl rfl om) rfl (rkt 32 rfl rfl rfl h6 (q_ix_map (m := k - 1) ttOk rfl rfl rfl om om) rfl (rkt 33 rfl rfl rfl h6 (q_fieldAddr ttOk rfl) rfl (rkt 34 rfl rfl rfl h6 (q_load ttOk rfl) rfl (rkt 35 rfl rfl rfl h6 (q_move rfl) rfl (rkt 36 rfl rfl rfl h6 (q_move rfl) rfl (rkt 37 rfl rfl rfl h6 (q_ix_map ttOk rfl rfl rfl rfl om) rfl (rkt 38 rfl rfl rfl h6 (q_fieldAddr ttOk rfl) rfl (rkt 39 rfl rfl rfl h6 (q_load ttOk rfl) rfl (rkt 40 rfl rfl rfl h6 (q_bin ttOk rfl) rfl (rdk_take 41 rfl kr ⟨_, _, rfl, rfl, (nf h5)⟩ (q_pick_t rfl h6 rfl) rfl (rk0 42 rfl (q_pick_f rfl (nf h5) rfl) rfl (rdk_endq kr (et (ev_cond rfl (fun h7 => ?_) (fun h7 => ?_)))))))))))))))))
 try have d7 := of_decide_eq_true h7
 refine ev_pr [0, 2, 3, 4, 8, 9, 10, 11, 12, 13, 14, 15, 16, 17, 18, 19, 20, 21, 22, 23, 24, 25, 26, 27, 28, 29, 30, 31, 32, 33, 34, 35, 36, 37, 38, 39, 40, 41, 42, 43, 44, 45, 46, 47, 48, 49, 50, 51, 52, 53, 54, 55, 56, 57, 58, 59, 60, 61, 62, 63, 64, 65, 66, 67, 68, 69, 70, 71, 72] rfl (sq (rg (xs rfl rfl (nl (et (ev_ret (evr_then (evr_blk (evr_then (evr_then (evr_blk (evr_then (ret_pure' ttOk rfl rfl (congrArg bR (?_ : _ = _)))))))))))))))
 rotate_left
 try have d7 := of_decide_eq_false h7
 refine ev_skip (et (ev_pr [0, 2, 3, 4, 8, 9, 10, 11, 12, 13, 14, 15, 16, 17, 18, 19, 20, 21, 22, 23, 24, 25, 26, 27, 28, 29, 30, 31, 32, 33, 34, 35, 36, 37, 38, 39, 40, 41, 42, 43, 44, 45, 46, 47, 48, 49, 50, 51, 52, 53, 54, 55, 56, 57, 58, 59, 60, 61, 62, 63, 64, 65, 66, 67, 68, 69, 70, 71, 72] rfl (sq ?_)))
 have hkl : k < l.length := by omega
 refine rg (xs rfl rfl (nl (et (ev_blk (ev_loop (fun j : Nat => (⟨[(4, iV j), (3, iV k), (0, cV (marks l))], [], [], []⟩ : St)) (fun j => j ≤ k ∧ ∀ m ∈ l.take j, m.index ≠ l[k].index) (fun j => k - j) 0 [] (⟨by simp, by simp⟩) lei ?_)))))
 intro j hp
 obtain ⟨q0, q1⟩ := hp
 show Ev _ _ _ _ (⟨[(4, iV j), (3, iV k), (0, cV (marks l))], [], [], []⟩ : St)
 refine sq (sq (rg (xm rfl rfl (xm rfl rfl (xb ttOk rfl rfl (nl (et (ev_cond rfl (fun h8 => ?_) (fun h8 => ?_)))))))))
 try have d8 := of_decide_eq_true h8
 refine ev_skip (et (sq (ev_blk (sq (ev_drawq [] mo (rk0 0 rfl (q_move rfl) rfl (rk0 1 rfl (q_move rfl) rfl (rk0 2 rfl (q_ix_map ttOk rfl rfl rfl rfl om) rfl (rk0 3 rfl (q_fieldAddr ttOk rfl) rfl (rk0 4 rfl (q_load ttOk rfl) rfl (rk0 5 rfl (q_move rfl) rfl (rk0 6 rfl (q_move rfl) rfl (rk0 7 rfl (q_ix_map ttOk rfl rfl rfl rfl om) rfl (rk0 8 rfl (q_fieldAddr ttOk rfl) rfl (rk0 9 rfl (q_load ttOk rfl) rfl (rk0 10 rfl (q_bin ttOk rfl) rfl (rdk_endq kr (et (ev_cond rfl (fun h9 => ?_) (fun h9 => ?_))))))))))))))))))))
 try have d9 := of_decide_eq_true h9
 refine sq (rg (xs rfl rfl (nl (et (ev_ret (evr_blk (evr_then (evr_then (evr_blk (evr_blk (evr_then (evr_then (evr_blk (evr_then (ret_pure' ttOk rfl rfl (congrArg bR (?_ : _ = _)))))))))))))))))
 rotate_left
 try have d9 := of_decide_eq_false h9
 refine ev_skip (eb (et (rg (xm rfl rfl (xa rfl rfl rfl om rfl (xs rfl rfl (nl (eve_round (j + 1) [] ?hp lei))))))))
 case hp => exact ⟨⟨by omega, all_takeP om q1 ‹_›⟩, by omega⟩
 try have d8 := of_decide_eq_false h8
 refine ev_exit (evx_then (evx_then (evx_hit (eb (et (rg (xm rfl rfl (xa rfl rfl rfl om rfl (xs rfl rfl (nl (eve_round (k + 1) [] ?hp lei)))))))))))
 case hp => exact ⟨⟨by omega, upto_next p1 (step_yes om ‹_› ‹_› ‹_› (has_none (j := j) om q1) (by first | exact .inl om | exact .inr ⟨by omega, by omega⟩))⟩, by omega⟩
 try have d6 := of_decide_eq_false h6
 refine rks 29 rfl rfl rfl h6 rfl (rks 30 rfl rfl rfl h6 rfl (rks 31 rfl rfl rfl h6 rfl (rks 32 rfl rfl rfl h6 rfl (rks 33 rfl rfl rfl h6 rfl (rks 34 rfl rfl rfl h6 rfl (rks 35 rfl rfl rfl h6 rfl (rks 36 rfl rfl rfl h6 rfl (rks 37 rfl rfl rfl h6 rfl (rks 38 rfl rfl rfl h6 rfl (rks 39 rfl rfl rfl h6 rfl (rks 40 rfl rfl rfl h6 rfl (rdk_take 41 rfl kr ⟨_, _, rfl, rfl, (nf h5)⟩ (q_pick_f rfl h6 rfl) rfl (rk0 42 rfl (q_pick_f rfl (nf h5) rfl) rfl (rdk_endq kr (et (ev_cond_kf rfl rfl (ev_skip (et (ev_pr [0, 2, 3, 4, 8, 9, 10, 11, 12, 13, 14, 15, 16, 17, 18, 19, 20, 21, 22, 23, 24, 25, 26, 27, 28, 29, 30, 31, 32, 33, 34, 35, 36, 37, 38, 39, 40, 41, 42, 43, 44, 45, 46, 47, 48, 49, 50, 51, 52, 53, 54, 55, 56, 57, 58, 59, 60, 61, 62, 63, 64, 65, 66, 67, 68, 69, 70, 71, 72] rfl (sq ?_))))))))))))))))))))
 have hkl : k < l.length := by omega
 refine rg (xs rfl rfl (nl (et (ev_blk (ev_loop (fun j : Nat => (⟨[(4, iV j), (3, iV k), (0, cV (marks l))], [], [], []⟩ : St)) (fun j => j ≤ k ∧ ∀ m ∈ l.take j, m.index ≠ l[k].index) (fun j => k - j) 0 [] (⟨by simp, by simp⟩) lei ?_)))))
 intro j hp
 obtain ⟨q0, q1⟩ := hp
 show Ev _ _ _ _ (⟨[(4, iV j), (3, iV k), (0, cV (marks l))], [], [], []⟩ : St)
 refine sq (sq (rg (xm rfl rfl (xm rfl rfl (xb ttOk rfl rfl (nl (et (ev_cond rfl (fun h10 => ?_) (fun h10 => ?_)))))))))
 try have d10 := of_decide_eq_true h10
 refine ev_skip (et (sq (ev_blk (sq (ev_drawq [] mo (rk0 0 rfl (q_move rfl) rfl (rk0 1 rfl (q_move rfl) rfl (rk0 2 rfl (q_ix_map ttOk rfl rfl rfl rfl om) rfl (rk0 3 rfl (q_fieldAddr ttOk rfl) rfl (rk0 4 rfl (q_load ttOk rfl) rfl (rk0 5 rfl (q_move rfl) rfl (rk0 6 rfl (q_move rfl) rfl (rk0 7 rfl (q_ix_map ttOk rfl rfl rfl rfl om) rfl (rk0 8 rfl (q_fieldAddr ttOk rfl) rfl (rk0 9 rfl (q_load ttOk rfl) rfl (rk0 10 rfl (q_bin ttOk rfl) rfl (rdk_endq kr (et (ev_cond rfl (fun h11 => ?_) (fun h11 => ?_))))))))))))))))))))
 try have d11 := of_decide_eq_true h11
 refine sq (rg (xs rfl rfl (nl (et (ev_ret (evr_blk (evr_then (evr_then (evr_blk (evr_blk (evr_then (evr_then (evr_blk (evr_then (ret_pure' ttOk rfl rfl (congrArg bR (?_ : _ = _)))))))))))))))))
 rotate_left
 try have d11 := of_decide_eq_false h11
 refine ev_skip (eb (et (rg (xm rfl rfl (xa rfl rfl rfl om rfl (xs rfl rfl (nl (eve_round (j + 1) [] ?hp lei))))))))
 case hp => exact ⟨⟨by omega, all_takeP om q1 ‹_›⟩, by omega⟩
 try have d10 := of_decide_eq_false h10
 refine ev_exit (evx_then (evx_then (evx_hit (eb (et (rg (xm rfl rfl (xa rfl rfl rfl om rfl (xs rfl rfl (nl (eve_round (k + 1) [] ?hp lei)))))))))))
 case hp => exact ⟨⟨by omega, upto_next p1 (step_yes om ‹_› ‹_› ‹_› (has_none (j := j) om q1) (by first | exact .inl om | exact .inr ⟨by omega, by omega⟩))⟩, by omega⟩
 try have d2 := of_decide_eq_false h2
 refine ev_exit (evx_then (evx_then (evx_hit (et (sq (rg (xs rfl rfl (nl (et (ev_ret (ret_pure' ttOk rfl rfl (congrArg bR (?_ : _ = _)))))))))))))
 rotate_left
 all_goals
  first
  | (have hh : ¬ l.length ≤ 4 := by omega
     cases hs : seenOk l with
     | false => rfl
     | true => exact absurd (seen_len hs) hh)
  | exact (seen_no (k := k) om (step_no1 om ‹_›)).symm
  | exact (seen_no (k := k) om (step_no2 om ‹_›)).symm
  | exact (seen_no (k := k) om (step_no3 om ‹_›)).symm
  | exact (seen_no (k := k) om (step_no4 om ‹_›)).symm
  | exact (seen_no (k := k) om (step_no5 om om ‹_›)).symm
  | exact (seen_no (k := k) om (step_no4 om (has_at (j := j) om om ‹_›))).symm
  | exact (seenOk_iff.2 fun q hq => p1 q om).symm
theorem mapI_next {l : List Mark} {k : Nat} (hk : k < l.length) (q : Int) : (if hasIx (l.take (k + 1)) q = true then some (Value.bool true) else none) = if q = l[k].index then some (mkV false [.bool true]) else if hasIx (l.take k) q = true then some (Value.bool true) else none := by
 rw [has_next hk]
 by_cases h : q = l[k].index
 ·subst h; simp; rfl
 ·have : ¬ l[k].index = q := fun e => h e.symm
  simp [h, this]
theorem c_SeenOk' (l : List Mark) : Pure Tryz.prog 40 [one (marks l)] (bR (seenOk l)) := by
 refine pure_intro (N := 53) Tryz.func40 rfl rfl rfl rfl (fun H w => ?_)
 refine ev_lenm (t := 0) rfl (fun hL => ?_)
 refine sq (rg (xs rfl rfl (nl (et (sq (rg (evl_e (e_mkmap (kt := 2) (et := 4) kr rfl rfl) (xs rfl rfl (nl (et (sq (sq (rg (xm rfl rfl (xo (q_len_map ttOk rfl rfl) rfl (xm rfl rfl (nl (et (ev_blk (ev_loop (fun k : Nat => (⟨[(9, iV k), (7, cV (marks l)), (8, iV l.length), (0, cV (marks l)), (3, .p false [.mp 6])], [], [], [(6, fun q => if hasIx (l.take k) q = true then some (Value.bool true) else none)]⟩ : St)) (fun k => k ≤ l.length ∧ ∀ q, q < k → stepOk l q = true) (fun k => l.length - k) 0 [] (⟨by simp, by simp⟩) ⟨trf, trf, tre, ⟨⟨_, rfl, by funext q; rfl⟩, trivial⟩, rfl⟩ ?_))))))))))))))))))))
 intro k hp
 obtain ⟨p0, p1⟩ := hp
 show Ev _ _ _ _ (⟨[(9, iV k), (7, cV (marks l)), (8, iV l.length), (0, cV (marks l)), (3, .p false [.mp 6])], [], [], [(6, fun q => if hasIx (l.take k) q = true then some (Value.bool true) else none)]⟩ : St)
 refine sq (rg (xb ttOk rfl rfl (nl (et (sq (ev_cond rfl (fun h1 => ?_) (fun h1 => ?_)))))))
 try have d1 := of_decide_eq_true h1
 refine ev_skip (et (sq (ev_blk (sq (rg (xm rfl rfl (xo (q_ix_map ttOk rfl rfl rfl rfl om) rfl (xl ttOk rfl rfl (evl_e (e_alloc ttOk rfl rfl rfl rfl) (xs rfl rfl (xst ttOk rfl rfl (nl (et (sq (sq (rg (xf ttOk rfl rfl (xl ttOk rfl rfl (evl_call (nm := 16) (cf rfl) (c_AskerOk' _) (rs_of rfl) rfl rfl rfl (xo (q_not rfl) rfl (xm rfl rfl (evl_partn rfl rfl (fun h2 => ?_) (fun h2 => ?_)))))))))))))))))))))))
 try have d2 := of_decide_eq_false h2
 refine gn (nt h2) rfl rfl rfl (gn (nt h2) rfl rfl rfl (gn (nt h2) rfl rfl rfl (gn (nt h2) rfl rfl rfl (xo (q_pick_t rfl (nt h2) rfl) rfl (xm rfl rfl (gn rfl rfl rfl rfl (gn rfl rfl rfl rfl (gn rfl rfl rfl rfl (gn rfl rfl rfl rfl (xo (q_pick_t rfl rfl rfl) rfl (xm rfl rfl (gn rfl rfl rfl rfl (gn rfl rfl rfl rfl (gn rfl rfl rfl rfl (gn rfl rfl rfl rfl (xo (q_pick_t rfl rfl rfl) rfl (nl (et (ev_cond_kt rfl rfl (sq (rg (xs rfl rfl (nl (et (ev_ret (evr_then (evr_blk (evr_then (evr_then (evr_blk (evr_then (ret_pure' ttOk rfl rfl (congrArg bR (?_ : _ = _))))))))))))))))))))))))))))))))))
 rotate_left
 try have d2 := of_decide_eq_true h2
 refine go (nf h2) rfl rfl (q_fieldAddr ttOk rfl) rfl (go (nf h2) rfl rfl (q_load ttOk rfl) rfl (evl_callg rfl rfl (nf h2) (nm := 21) (cf rfl) (c_seqOk' _) (rs_of rfl) rfl rfl rfl (go (nf h2) rfl rfl (q_not rfl) rfl (xo (q_pick_f rfl (nf h2) rfl) rfl (xm rfl rfl (evl_partn rfl rfl (fun h3 => ?_) (fun h3 => ?_)))))))
 try have d3 := of_decide_eq_false h3
 refine gn (nt h3) rfl rfl rfl (gn (nt h3) rfl rfl rfl (gn (nt h3) rfl rfl rfl (gn (nt h3) rfl rfl rfl (xo (q_pick_t rfl (nt h3) rfl) rfl (xm rfl rfl (gn rfl rfl rfl rfl (gn rfl rfl rfl rfl (gn rfl rfl rfl rfl (gn rfl rfl rfl rfl (xo (q_pick_t rfl rfl rfl) rfl (nl (et (ev_cond_kt rfl rfl (sq (rg (xs rfl rfl (nl (et (ev_ret (evr_then (evr_blk (evr_then (evr_then (evr_blk (evr_then (ret_pure' ttOk rfl rfl (congrArg bR (?_ : _ = _))))))))))))))))))))))))))))
 rotate_left
 try have d3 := of_decide_eq_true h3
 refine go (nf h3) rfl rfl (q_fieldAddr ttOk rfl) rfl (go (nf h3) rfl rfl (q_load ttOk rfl) rfl (evl_callg rfl rfl (nf h3) (nm := 27) (cf rfl) (c_indexOk' _) (rs_of rfl) rfl rfl rfl (go (nf h3) rfl rfl (q_not rfl) rfl (xo (q_pick_f rfl (nf h3) rfl) rfl (xm rfl rfl (evl_partn rfl rfl (fun h4 => ?_) (fun h4 => ?_)))))))
 try have d4 := of_decide_eq_false h4
 refine gn (nt h4) rfl rfl rfl (gn (nt h4) rfl rfl rfl (gn (nt h4) rfl rfl rfl (gn (nt h4) rfl rfl rfl (xo (q_pick_t rfl (nt h4) rfl) rfl (nl (et (ev_cond_kt rfl rfl (sq (rg (xs rfl rfl (nl (et (ev_ret (evr_then (evr_blk (evr_then (evr_then (evr_blk (evr_then (ret_pure' ttOk rfl rfl (congrArg bR (?_ : _ = _))))))))))))))))))))))
 rotate_left
 try have d4 := of_decide_eq_true h4
 refine gm (nf h4) rfl rfl rfl rfl (go (nf h4) rfl rfl (q_fieldAddr ttOk rfl) rfl (go (nf h4) rfl rfl (q_load ttOk rfl) rfl (go (nf h4) rfl rfl (q_lookup_b (kt := 2) (et := 4) kr ttOk rfl rfl rfl rfl rfl rfl rfl) rfl (xo (q_pick_f rfl (nf h4) rfl) rfl (nl (et (ev_cond rfl (fun h5 => ?_) (fun h5 => ?_))))))))
 try have d5 := of_decide_eq_true h5
 refine ev_pr [0, 2, 3, 4, 5, 7, 8, 9, 10, 11, 12, 13, 14, 15, 16, 17, 18, 19, 20, 21, 22, 23, 24, 25, 26, 27, 28, 29, 30, 31, 32, 33, 34, 35, 36, 37, 38, 39, 40, 41, 42, 43, 44, 45, 46, 47, 48, 49, 50, 51, 52] rfl (sq (rg (xs rfl rfl (nl (et (ev_ret (evr_then (evr_blk (evr_then (evr_then (evr_blk (evr_then (ret_pure' ttOk rfl rfl (congrArg bR (?_ : _ = _)))))))))))))))
 rotate_left
 try have d5 := of_decide_eq_false h5
 refine ev_skip (et (ev_pr [0, 2, 3, 4, 5, 7, 8, 9, 10, 11, 12, 13, 14, 15, 16, 17, 18, 19, 20, 21, 22, 23, 24, 25, 26, 27, 28, 29, 30, 31, 32, 33, 34, 35, 36, 37, 38, 39, 40, 41, 42, 43, 44, 45, 46, 47, 48, 49, 50, 51, 52] rfl (sq (sq (ev_drawq [] mo (rk0 0 rfl (q_move rfl) rfl (rk0 1 rfl (q_bin ttOk rfl) rfl (rk0 2 rfl (q_move rfl) rfl (rdk_part (t := 38) rfl (fun h6 => ?_) (fun h6 => ?_))))))))))
 try have d6 := of_decide_eq_true h6
 refine rkt 3 rfl rfl rfl h6 (q_move rfl) rfl (rkt 4 rfl rfl rfl h6 (q_move rfl) rfl (rkt 5 rfl rfl rfl h6 (q_ar rfl rfl rfl om) rfl (rkt 6 rfl rfl rfl h6 (q_ix_map (m := k - 1) ttOk rfl rfl rfl om om) rfl (rkt 7 rfl rfl rfl h6 (q_fieldAddr ttOk rfl) rfl (rkt 8 rfl rfl rfl h6 (q_load ttOk rfl) rfl (rkt 9 rfl rfl rfl h6 (q_fieldAddr ttOk rfl) rfl (rkt 10 rfl rfl rfl h6 (q_load ttOk rfl) rfl (rkt 11 rfl rfl rfl h6 (q_bin ttOk rfl) rfl (rk0 12 rfl (q_pick_t rfl h6 rfl) rfl (rdk_endq kr (et (ev_cond rfl (fun h7 => ?_) (fun h7 => ?_)))))))))))))
 try have d7 := of_decide_eq_true h7
 refine sq (rg (xs rfl rfl (nl (et (ev_ret (evr_then (evr_blk (evr_then (evr_then (evr_blk (evr_then (ret_pure' ttOk rfl rfl (congrArg bR (?_ : _ = _))))))))))))))
 rotate_left
 try have d7 := of_decide_eq_false h7
 refine ev_skip (et (rg (xm rfl rfl (xf ttOk rfl rfl (xl ttOk rfl rfl (evl_e (e_mapset (f' := fun q => if hasIx (l.take (k + 1)) q = true then some (Value.bool true) else none) (kt := 2) (et := 4) kr rfl rfl rfl rfl rfl (mapI_next om) rfl) (nl (eb (et (rg (xa rfl rfl rfl om rfl (xm rfl rfl (nl (eve_round (k + 1) [] ?hp lei))))))))))))))
 case hp => exact ⟨⟨by omega, upto_next p1 (step_yes om ‹_› ‹_› ‹_› ‹_› (by first | exact .inl om | exact .inr ⟨by omega, by omega⟩))⟩, by omega⟩
 try have d6 := of_decide_eq_false h6
 refine rks 3 rfl rfl rfl h6 rfl (rks 4 rfl rfl rfl h6 rfl (rks 5 rfl rfl rfl h6 rfl (rks 6 rfl rfl rfl h6 rfl (rks 7 rfl rfl rfl h6 rfl (rks 8 rfl rfl rfl h6 rfl (rks 9 rfl rfl rfl h6 rfl (rks 10 rfl rfl rfl h6 rfl (rks 11 rfl rfl rfl h6 rfl (rk0 12 rfl (q_pick_f rfl h6 rfl) rfl (rdk_endq kr (et (ev_cond_kf rfl rfl (ev_skip (et (rg (xm rfl rfl (xf ttOk rfl rfl (xl ttOk rfl rfl (evl_e (e_mapset (f' := fun q => if hasIx (l.take (k + 1)) q = true then some (Value.bool true) else none) (kt := 2) (et := 4) kr rfl rfl rfl rfl rfl (mapI_next om) rfl) (nl (eb (et (rg (xa rfl rfl rfl om rfl (xm rfl rfl (nl (eve_round (k + 1) [] ?hp lei)))))))))))))))))))))))))))
 case hp => exact ⟨⟨by omega, upto_next p1 (step_yes om ‹_› ‹_› ‹_› ‹_› (by first | exact .inl om | exact .inr ⟨by omega, by omega⟩))⟩, by omega⟩
 try have d1 := of_decide_eq_false h1
 refine ev_exit (evx_then (evx_then (evx_hit (et (sq (rg (xs rfl rfl (nl (et (ev_ret (ret_pure' ttOk rfl rfl (congrArg bR (?_ : _ = _)))))))))))))
 rotate_left
 all_goals
  first
  | (have hh : ¬ l.length ≤ 4 := by omega
     cases hs : seenOk l with
     | false => rfl
     | true => exact absurd (seen_len hs) hh)
  | exact (seen_no (k := k) om (step_no1 om ‹_›)).symm
  | exact (seen_no (k := k) om (step_no2 om ‹_›)).symm
  | exact (seen_no (k := k) om (step_no3 om ‹_›)).symm
  | exact (seen_no (k := k) om (step_no4 om ‹_›)).symm
  | exact (seen_no (k := k) om (step_no5 om om ‹_›)).symm
  | exact (seenOk_iff.2 fun q hq => p1 q om).symm
theorem c_LastSeen (l : List Mark) : Pure Tryz.prog 95 [one (marks l)] (iR (if seenOk l then lastF l else 0)) := by
 refine pure_intro (N := 23) Tryz.func95 rfl rfl rfl rfl (fun H w => ?_)
 refine ev_lenm (t := 0) rfl (fun hL => ?_)
 refine sq (rg (xs rfl rfl (nl (et (sq (rg (xs rfl rfl (nl (et (sq (sq (rg (xm rfl rfl (evl_call (nm := 6) (cf rfl) (c_SeenOk _) (rs_of rfl) rfl rfl rfl (xo (q_not rfl) rfl (nl (et (ev_cond_n rfl (fun h1 => ?_) (fun h1 => ?_)))))))))))))))))))
 ·try have d1 := of_decide_eq_false h1
  refine sq (rg (xm rfl rfl (xs rfl rfl (nl (et (ev_ret (evr_then (ret_pure' ttOk rfl rfl ?_))))))))
  rw [show seenOk l = false from h1]; rfl
 ·try have d1 := of_decide_eq_true h1
  refine ev_skip (et (sq (sq (rg (xs rfl rfl (nl (et (ev_blk (ev_loop (fun i : Nat × Int => (⟨[(4, iV i.1), (0, cV (marks l)), (3, iV i.2)], [], [], []⟩ : St)) (fun i => i.1 ≤ l.length ∧ i.2 = lastF (l.take i.1)) (fun i => l.length - i.1) (0, 0) [] (⟨by simp, rfl⟩) lei ?_)))))))))
  intro i hp
  obtain ⟨k, s⟩ := i
  have hp : k ≤ l.length ∧ s = lastF (l.take k) := hp
  obtain ⟨p0, p1⟩ := hp
  show Ev _ _ _ _ (⟨[(4, iV k), (0, cV (marks l)), (3, iV s)], [], [], []⟩ : St)
  refine sq (sq (rg (xm rfl rfl (xm rfl rfl (xo (q_len_map ttOk rfl rfl) rfl (xb ttOk rfl rfl (nl (et (ev_cond rfl (fun h2 => ?_) (fun h2 => ?_))))))))))
  ·try have d2 := of_decide_eq_true h2
   refine ev_skip (et (sq (ev_blk (rg (xm rfl rfl (xm rfl rfl (xm rfl rfl (xo (q_ix_map ttOk rfl rfl rfl rfl om) rfl (xf ttOk rfl rfl (xl ttOk rfl rfl (evl_call (nm := 21) (cf rfl) (c_l1Max _ _) (rs_of rfl) rfl rfl rfl (xs rfl rfl (nl (eb (et (rg (xm rfl rfl (xa rfl rfl rfl om rfl (xs rfl rfl (nl (eve_round (k + 1, _) [] ?hp lei)))))))))))))))))))))
   case hp => exact ⟨⟨by omega, last_next om p1⟩, by omega⟩
  ·try have d2 := of_decide_eq_false h2
   refine ev_exit (evx_then (evx_then (evx_hit (et (sq (rg (xm rfl rfl (xs rfl rfl (nl (et (ev_ret (ret_pure' ttOk rfl rfl ?_))))))))))))
   rw [show seenOk l = true from h1, last_all om p1]; rfl
end Go.Proofs.YtahkjonokeifmaaGreat
