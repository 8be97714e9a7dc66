/- Walks of functions of the program, printed by a program of the prover. -/
import Derived.Test.YtphaggopgdbojaaGreatFaF39
import Derived.Test.YtphaggopgdbojaaGreatFaVE
import Derived.Test.YtphaggopgdbojaaGreatFaVY
import Derived.Test.YtphaggopgdbojaaGreatFaVS
namespace Go.Proofs.YtphaggopgdbojaaGreat
open Go.ChangeShapes Go.WideShapes Go.ChangeAt Go.RowKit
set_option linter.unusedVariables false
set_option linter.unusedSimpArgs false
set_option maxHeartbeats 1000000
set_option maxRecDepth 100000
attribute [local irreducible] EvL Ev EvE Quiet Eff Pure RDk RDb RDo
/-- every second number from i on, m of them -/
def pk (F : List Int) (i : Nat) : Nat → List Int
  | 0 => []
  | k + 1 => pk F i k ++ [F.getD (i + 2 * k) 0]
theorem pk_len (F : List Int) (i : Nat) : ∀ k, (pk F i k).length = k
  | 0 => rfl
  | k + 1 => by simp [pk, pk_len F i k]
theorem pk_at (F : List Int) (i : Nat) : ∀ m k, k < m → (pk F i m).getD k 0 = F.getD (i + 2 * k) 0
  | 0, k, h => by omega
  | m + 1, k, h => by
    have hl := pk_len F i m
    simp only [pk, List.getD_eq_getElem?_getD]
    rcases Nat.lt_or_ge k m with h1 | h1
    · rw [List.getElem?_append_left (by omega)]
      have := pk_at F i m k h1
      simpa only [List.getD_eq_getElem?_getD] using this
    · have : k = m := by omega
      subst this
      rw [List.getElem?_append_right (by omega), hl]
      simp
theorem fate_pk {F : List Int} {i m k : Nat} (h : k < m ∨ F.length ≤ i + 2 * k) : fateAt (pk F i m) k = F.getD (i + 2 * k) 0 := by
  unfold fateAt
  rcases Nat.lt_or_ge k m with h1 | h1
  · exact pk_at F i m k h1
  · have h2 : F.length ≤ i + 2 * k := by omega
    simp only [List.getD_eq_getElem?_getD]
    rw [List.getElem?_eq_none (by rw [pk_len]; omega), List.getElem?_eq_none h2]
theorem fallUp_congr {d : Disk} {F G : List Int} {all : Bool} : ∀ k, (∀ j, j < k → fateAt F j = fateAt G j) → fallUp d F all k = fallUp d G all k
  | 0, _ => rfl
  | k + 1, h => by
    simp only [fallUp]
    rw [fallUp_congr k fun j hj => h j (by omega), h k (by omega)]
theorem fallF_congr {d : Disk} {F G : List Int} {all : Bool} (h : ∀ j, j < 60 → fateAt F j = fateAt G j) : fallF d F all = fallF d G all := by
  cases hd : diskOk d
  · rw [fall_no hd, fall_no hd]
  · rw [fall_yes hd, fall_yes hd, fallUp_congr]
    intro j hj
    exact h j (by have := (diskOk_sizes hd).2.1; omega)
def halfN (F : List Int) (i : Nat) : Nat := (F.length + 1 - i) / 2
def half (F : List Int) (i : Nat) : List Int := pk F i (halfN F i)
def half60 (F : List Int) (i : Nat) : List Int := pk F i (min 60 (halfN F i))
theorem half_fall {d : Disk} {F : List Int} {i : Nat} : fallF d (half60 F i) false = fallF d (half F i) false := by
  refine fallF_congr fun j hj => ?_
  unfold half60 half halfN
  rw [fate_pk (by omega), fate_pk (by omega)]
theorem pk_snoc {F : List Int} {i k m : Nat} (h : m = i + 2 * k) (hm : m < F.length) : pk F i k ++ [F[m]] = pk F i (k + 1) := by
  subst h
  simp only [pk]
  rw [List.getD_eq_getElem?_getD, List.getElem?_eq_getElem hm]
  rfl
def bothFallenF (t : Two) (F : List Int) : Two := if twoOk t then ⟨fallF t.a (half F 0) false, fallF t.b (half F 1) false⟩ else zeroT
theorem bf_no {t : Two} {F : List Int} (h : twoOk t = false) : bothFallenF t F = zeroT := by simp [bothFallenF, h]
theorem bf_yes {t : Two} {F : List Int} (h : twoOk t = true) : bothFallenF t F = ⟨fallF t.a (half F 0) false, fallF t.b (half F 1) false⟩ := by simp [bothFallenF, h]
theorem bf_yes60 {t : Two} {F : List Int} (h : twoOk t = true) : bothFallenF t F = ⟨fallF t.a (half60 F 0) false, fallF t.b (half60 F 1) false⟩ := by rw [bf_yes h, half_fall, half_fall]
def zeroL : LogN := ⟨zeroT, noHead, noHead, false, ⟨0, 0, []⟩, [], 0, []⟩
def fallenLogF (n : LogN) (F : List Int) : LogN := if logOkF n then ⟨bothFallenF n.two F, noHead, noHead, false, ⟨0, 0, []⟩, [], 0, []⟩ else zeroL
theorem fl_no {n : LogN} {F : List Int} (h : logOkF n = false) : fallenLogF n F = zeroL := by simp [fallenLogF, h]
theorem fl_yes {n : LogN} {F : List Int} (h : logOkF n = true) : fallenLogF n F = ⟨bothFallenF n.two F, noHead, noHead, false, ⟨0, 0, []⟩, [], 0, []⟩ := by simp [fallenLogF, h]
theorem c_l4Fates (F : List Int) (x : Int) (f : Nat) (hx : x = f) (hi : f ≤ 1) (hF : F.length ≤ 1048576) : Pure Tryz.prog 159 [one (ints F), one (iC x)] [one' (intsR 2 (half60 F f))] := by
 refine pure_intro (N := 28) Tryz.func159 rfl rfl rfl rfl (fun H w => ?_)
 refine ev_lenm (t := 0) rfl (fun hL => ?_)
 refine sq (rg (xs rfl rfl (nl (et (sq (rg (evl_e (e_lit ttOk rfl rfl rfl) (xs rfl rfl (nl (et (sq (sq (rg (xm rfl rfl (xs rfl rfl (nl (et (ev_blk (ev_loop (fun i : Nat × Int => (⟨[(6, iV i.2), (0, cV (ints F)), (5, .p false [.rt 101])], [], [(101, 2, 1, ((pk F f i.1).map fun x => [iC x]))], []⟩ : St)) (fun i => i.1 ≤ halfN F f ∧ i.1 ≤ 60 ∧ i.2 = x + 2 * i.1) (fun i => 60 - i.1) (0, x) [(101, 7)] (⟨by omega, by omega, by omega⟩) ⟨by (repeat first | exact trivial | refine ⟨rfl, ?_⟩), by (repeat first | exact trivial | refine ⟨rfl, ?_⟩), ⟨⟨_, rfl, by rfl⟩, trivial⟩, by (repeat first | exact trivial | refine ⟨⟨_, rfl, rfl⟩, ?_⟩), rfl⟩ ?_)))))))))))))))))))
 intro i hp
 obtain ⟨k, z⟩ := i
 have hp : k ≤ halfN F f ∧ k ≤ 60 ∧ z = x + 2 * k := hp
 obtain ⟨p0, p1, p2⟩ := hp
 show Ev _ _ _ _ (⟨[(6, iV z), (0, cV (ints F)), (5, .p false [.rt 101])], [], [(101, 2, 1, ((pk F f k).map fun x => [iC x]))], []⟩ : St)
 have hpl := pk_len F f k
 refine sq (sq (rg (xm rfl rfl (xm rfl rfl (xo (q_len_map ttOk rfl rfl) rfl (xb ttOk rfl rfl (xm rfl rfl (evl_part rfl rfl (fun h1 => ?_) (fun h1 => ?_)))))))))
 · try have d1 := of_decide_eq_true h1
   refine gm h1 rfl rfl rfl rfl (go h1 rfl rfl (q_len_rtm ttOk rfl rfl rfl) rfl (go h1 rfl rfl (q_bin ttOk rfl) rfl (xo (q_pick_t rfl h1 rfl) rfl (nl (et (ev_cond rfl (fun h2 => ?_) (fun h2 => ?_)))))))
   · try have d2 := of_decide_eq_true h2
     refine ev_skip (et (sq (ev_blk (rg (xm rfl rfl (xm rfl rfl (xm rfl rfl (xo (q_ix_map (m := f + 2 * k) ttOk rfl rfl rfl (by omega) (by omega)) rfl (xl ttOk rfl rfl (evl_e (e_lit ttOk rfl rfl rfl) (evl_e (e_app ttOk rfl rfl rfl rfl rfl rfl rfl (by simp; omega) rfl rfl) (xs rfl rfl (nl (eb (et (rg (xm rfl rfl (xa rfl rfl rfl (by omega) rfl (xs rfl rfl (nl (eve_round (k + 1, _) [(101, 26)] ?hp ⟨by (repeat first | exact trivial | refine ⟨rfl, ?_⟩), by (repeat first | exact trivial | refine ⟨rfl, ?_⟩), ⟨⟨_, rfl, by rw [← pk_snoc (F := F) (i := f) (k := k) rfl (by omega)]; simp⟩, trivial⟩, by (repeat first | exact trivial | refine ⟨⟨_, rfl, rfl⟩, ?_⟩), rfl⟩)))))))))))))))))))))
     case hp => exact ⟨⟨by unfold halfN at *; omega, by omega, by omega⟩, by omega⟩
   · try have d2 := of_decide_eq_false h2
     refine ev_exit (evx_then (evx_then (evx_hit (et (sq (rg (xm rfl rfl (xs rfl rfl (nl (et (ev_ret (ret_pure' ttOk rfl rfl ?_))))))))))))
     rw [show half60 F f = pk F f k by unfold half60; rw [show min 60 (halfN F f) = k by unfold halfN at *; omega]]
 · try have d1 := of_decide_eq_false h1
   refine gn h1 rfl rfl rfl (gn h1 rfl rfl rfl (gn h1 rfl rfl rfl (xo (q_pick_f rfl h1 rfl) rfl (nl (et (ev_cond_kf rfl rfl (ev_exit (evx_then (evx_then (evx_hit (et (sq (rg (xm rfl rfl (xs rfl rfl (nl (et (ev_ret (ret_pure' ttOk rfl rfl ?_)))))))))))))))))))
   rw [show half60 F f = pk F f k by unfold half60; rw [show min 60 (halfN F f) = k by unfold halfN at *; omega]]
theorem c_BothFallen (t : Two) (F : List Int) (hF : F.length ≤ 1048576) : Pure Tryz.prog 89 [many (twoC t), one (ints F)] [many' (twoR (bothFallenF t F))] := by
 refine pure_intro (N := 20) Tryz.func89 rfl rfl rfl rfl (fun H w => ?_)
 refine sq (rg (evl_e (e_box rfl rfl rfl rfl) (evl_e (e_alloc ttOk rfl rfl rfl rfl) (nl (et (sq (sq (rg (xl ttOk rfl rfl (evl_call (nm := 6) (cf rfl) (c_TwoOk t) (rs_of rfl) rfl rfl rfl (xo (q_not rfl) rfl (nl (et (ev_cond_n rfl (fun h1 => ?_) (fun h1 => ?_)))))))))))))))
 · refine sq (rg (xo (q_build ttOk rfl) rfl (xst ttOk rfl rfl (nl (et (ev_ret (evr_then (ret_pureN ttOk rfl rfl ?_))))))))
   first
   | (rw [bf_no (by assumption)]; simp [RpLe, L2, RcLe, zeroD, zeroT]; done)
   | (rw [bf_yes60 (by assumption)]; simp [RpLe, L2, RcLe]; done)
   | (rw [bf_yes (by assumption)]; simp [RpLe, L2, RcLe, half, halfN]; done)
 · refine ev_skip (et (sq (ev_drawq [11] mo (rdk_take 0 rfl (by kernel_rfl) trivial (q_fieldAddr ttOk rfl) rfl (rdk_take 1 rfl (by kernel_rfl) trivial (q_load ttOk rfl) rfl (rdk_take 2 rfl (by kernel_rfl) trivial (q_move rfl) rfl (rdk_take 5 rfl (by kernel_rfl) trivial (q_fieldAddr ttOk rfl) rfl (rdk_take 6 rfl (by kernel_rfl) trivial (q_load ttOk rfl) rfl (rdk_take 7 rfl (by kernel_rfl) trivial (q_move rfl) rfl (rdk_one 3 (by kernel_rfl) ?_))))))))))
   first | refine rdo_call (nm := 12) rfl trivial (cf rfl) (c_l4Fates F 0 0 rfl (by omega) hF) (rs_of rfl) rfl rfl rfl ?_ | refine rdo_call (nm := 12) rfl trivial (cf rfl) (c_l4Fates F 1 1 rfl (by omega) hF) (rs_of rfl) rfl rfl rfl ?_
   refine rdk_one 4 (by kernel_rfl) ?_
   first | refine rdo_call (nm := 13) rfl trivial (cf rfl) (c_Fallen t.a (half60 F 0)) (rs_of rfl) rfl rfl rfl ?_ | refine rdo_call (nm := 13) rfl trivial (cf rfl) (c_Fallen t.b (half60 F 1)) (rs_of rfl) rfl rfl rfl ?_
   refine rdk_one 8 (by kernel_rfl) ?_
   first | refine rdo_call (nm := 17) rfl trivial (cf rfl) (c_l4Fates F 0 0 rfl (by omega) hF) (rs_of rfl) rfl rfl rfl ?_ | refine rdo_call (nm := 17) rfl trivial (cf rfl) (c_l4Fates F 1 1 rfl (by omega) hF) (rs_of rfl) rfl rfl rfl ?_
   refine rdk_one 9 (by kernel_rfl) ?_
   first | refine rdo_call (nm := 18) rfl trivial (cf rfl) (c_Fallen t.a (half60 F 0)) (rs_of rfl) rfl rfl rfl ?_ | refine rdo_call (nm := 18) rfl trivial (cf rfl) (c_Fallen t.b (half60 F 1)) (rs_of rfl) rfl rfl rfl ?_
   refine rdk_take 10 rfl (by kernel_rfl) trivial (q_build ttOk rfl) rfl (rdk_one 11 (by kernel_rfl) (rdo_brk rfl rfl trivial (e_store ttOk rfl) (rdb_endq (by kernel_rfl) (et (ev_ret (ret_pureN ttOk rfl rfl ?_))))))
   first
   | (rw [bf_no (by assumption)]; simp [RpLe, L2, RcLe, zeroD, zeroT]; done)
   | (rw [bf_yes60 (by assumption)]; simp [RpLe, L2, RcLe]; done)
   | (rw [bf_yes (by assumption)]; simp [RpLe, L2, RcLe, half, halfN]; done)
theorem c_BothFallen' (t : Two) (F : List Int) (hF : F.length ≤ 1048576) : Pure Tryz.prog 90 [many (twoC t), one (ints F)] [many' (twoR (bothFallenF t F))] := by
 refine pure_intro (N := 51) Tryz.func90 rfl rfl rfl rfl (fun H w => ?_)
 refine ev_lenm (t := 1) rfl (fun hL => ?_)
 refine sq (rg (evl_e (e_box rfl rfl rfl rfl) (evl_e (e_alloc ttOk rfl rfl rfl rfl) (nl (et (sq (sq (rg (xl ttOk rfl rfl (evl_call (nm := 12) (cf rfl) (c_TwoOk' t) (rs_of rfl) rfl rfl rfl (xo (q_not rfl) rfl (nl (et (ev_cond_n rfl (fun h1 => ?_) (fun h1 => ?_)))))))))))))))
 · try have d1 := of_decide_eq_false h1
   refine sq (rg (xo (q_build ttOk rfl) rfl (xst ttOk rfl rfl (nl (et (ev_ret (evr_then (ret_pureN ttOk rfl rfl ?_))))))))
   first
   | (rw [bf_no (by assumption)]; simp [RpLe, L2, RcLe, zeroD, zeroT]; done)
   | (rw [bf_yes60 (by assumption)]; simp [RpLe, L2, RcLe]; done)
   | (rw [bf_yes (by assumption)]; simp [RpLe, L2, RcLe, half, halfN]; done)
 · try have d1 := of_decide_eq_true h1
   refine ev_skip (et (sq (rg (xo (q_build ttOk rfl) rfl (evl_e (e_alloc ttOk rfl rfl rfl rfl) (xst ttOk rfl rfl (nl (et (sq (sq (ev_adopt (b := 5) 0 101 2 1 rfl rfl rfl rfl rfl (ev_adopt (b := 5) 1 102 2 1 rfl rfl rfl rfl rfl (rg (xm rfl rfl (xo (q_len_map ttOk rfl rfl) rfl (xm rfl rfl (nl (et (ev_blk (ev_loop (fun k : Nat => (⟨[(18, iV k), (16, cV (ints F)), (17, iV F.length), (5, pbV 5 0), (2, pbV 2 0), (4, pbV 4 0)], [(5, 173, [.rt 101, .rt 102]), (4, 42, [.c .nil, .c .nil, .c .nil, .c .nil]), (2, 42, [.c (rows t.a.kept), .c (writes t.a.wait), .c (rows t.b.kept), .c (writes t.b.wait)])], [(101, 2, 1, ((pk F 0 ((k + 1) / 2)).map fun x => [iC x])), (102, 2, 1, ((pk F 1 (k / 2)).map fun x => [iC x]))], []⟩ : St)) (fun k => k ≤ F.length) (fun k => F.length - k) 0 [] (by simp) ⟨by (repeat first | exact trivial | refine ⟨rfl, ?_⟩), by (repeat first | exact trivial | refine ⟨rfl, ?_⟩), ⟨⟨_, rfl, by rfl⟩, ⟨_, rfl, by rfl⟩, trivial⟩, by (repeat first | exact trivial | refine ⟨⟨_, rfl, rfl⟩, ?_⟩), rfl⟩ ?_))))))))))))))))))))
   intro k hp
   have p0 := hp
   show Ev _ _ _ _ (⟨[(18, iV k), (16, cV (ints F)), (17, iV F.length), (5, pbV 5 0), (2, pbV 2 0), (4, pbV 4 0)], [(5, 173, [.rt 101, .rt 102]), (4, 42, [.c .nil, .c .nil, .c .nil, .c .nil]), (2, 42, [.c (rows t.a.kept), .c (writes t.a.wait), .c (rows t.b.kept), .c (writes t.b.wait)])], [(101, 2, 1, ((pk F 0 ((k + 1) / 2)).map fun x => [iC x])), (102, 2, 1, ((pk F 1 (k / 2)).map fun x => [iC x]))], []⟩ : St)
   have hpl0 := pk_len F 0 ((k + 1) / 2)
   have hpl1 := pk_len F 1 (k / 2)
   refine sq (rg (xb ttOk rfl rfl (nl (et (sq (ev_cond rfl (fun h2 => ?_) (fun h2 => ?_)))))))
   · try have d2 := of_decide_eq_true h2
     refine ev_skip (et (sq (ev_blk (sq (rg (xm rfl rfl (xo (q_ix_map ttOk rfl rfl rfl rfl (by omega)) rfl (xl ttOk rfl rfl (xs rfl rfl (xs rfl rfl (nl (et ?_))))))))))))
     rcases Nat.mod_two_eq_zero_or_one k with hpar | hpar
     · refine rg (xm rfl rfl ?_)
       first | refine xo (q_rem_pos rfl rfl (by omega)) rfl ?_ | refine xo (q_rem rfl rfl (by omega)) rfl ?_
       refine xm rfl rfl ?_
       first | refine xo (q_rem_pos rfl rfl (by omega)) rfl ?_ | refine xo (q_rem rfl rfl (by omega)) rfl ?_
       first | refine xo (q_ix_arr 0 ttOk rfl rfl (by omega)) rfl ?_ | refine xo (q_ix_arr 1 ttOk rfl rfl (by omega)) rfl ?_
       refine xl ttOk rfl rfl (xm rfl rfl (evl_e (e_lit ttOk rfl rfl rfl) (evl_e (e_app ttOk rfl rfl rfl rfl rfl rfl rfl (by simp; omega) rfl rfl) ?_)))
       first | refine xo (q_ix_arr 0 ttOk rfl rfl (by omega)) rfl ?_ | refine xo (q_ix_arr 1 ttOk rfl rfl (by omega)) rfl ?_
       refine xst ttOk rfl rfl (nl (eb (et (rg (xa rfl rfl rfl (by omega) rfl (xm rfl rfl (nl (eve_round (k + 1) [(101, 31)] ?hp ⟨by (repeat first | exact trivial | refine ⟨rfl, ?_⟩), by (repeat first | exact trivial | refine ⟨rfl, ?_⟩), ⟨⟨_, rfl, by rw [show (k + 1 + 1) / 2 = (k + 1) / 2 + 1 by omega, ← pk_snoc (m := k) (by omega) (by omega)]; simp⟩, ⟨_, rfl, by rw [show (k + 1) / 2 = k / 2 by omega]⟩, trivial⟩, by (repeat first | exact trivial | refine ⟨⟨_, rfl, rfl⟩, ?_⟩), rfl⟩))))))))
       case hp => exact ⟨by omega, by omega⟩
     · refine rg (xm rfl rfl ?_)
       first | refine xo (q_rem_pos rfl rfl (by omega)) rfl ?_ | refine xo (q_rem rfl rfl (by omega)) rfl ?_
       refine xm rfl rfl ?_
       first | refine xo (q_rem_pos rfl rfl (by omega)) rfl ?_ | refine xo (q_rem rfl rfl (by omega)) rfl ?_
       first | refine xo (q_ix_arr 0 ttOk rfl rfl (by omega)) rfl ?_ | refine xo (q_ix_arr 1 ttOk rfl rfl (by omega)) rfl ?_
       refine xl ttOk rfl rfl (xm rfl rfl (evl_e (e_lit ttOk rfl rfl rfl) (evl_e (e_app ttOk rfl rfl rfl rfl rfl rfl rfl (by simp; omega) rfl rfl) ?_)))
       first | refine xo (q_ix_arr 0 ttOk rfl rfl (by omega)) rfl ?_ | refine xo (q_ix_arr 1 ttOk rfl rfl (by omega)) rfl ?_
       refine xst ttOk rfl rfl (nl (eb (et (rg (xa rfl rfl rfl (by omega) rfl (xm rfl rfl (nl (eve_round (k + 1) [(102, 31)] ?hp ⟨by (repeat first | exact trivial | refine ⟨rfl, ?_⟩), by (repeat first | exact trivial | refine ⟨rfl, ?_⟩), ⟨⟨_, rfl, by rw [show (k + 1 + 1) / 2 = (k + 1) / 2 by omega]⟩, ⟨_, rfl, by rw [show (k + 1) / 2 = k / 2 + 1 by omega, ← pk_snoc (m := k) (by omega) (by omega)]; simp⟩, trivial⟩, by (repeat first | exact trivial | refine ⟨⟨_, rfl, rfl⟩, ?_⟩), rfl⟩))))))))
       case hp => exact ⟨by omega, by omega⟩
   · try have d2 := of_decide_eq_false h2
     refine ev_exit (evx_then (evx_then (evx_hit (et (sq ?_)))))
     obtain rfl : k = F.length := by omega
     refine rg (xl ttOk rfl rfl (evl_callv (cf rfl) hands_disks rfl rfl rfl rfl (evl_e (e_alloc ttOk rfl rfl rfl rfl) (xst ttOk rfl rfl (nl (et (sq (sq (rg (xl ttOk rfl rfl (xm rfl rfl (nl (et (ev_blk (ev_rounds 2 (sq (rg (xb ttOk rfl rfl (nl (et (sq (ev_cond_kt rfl (by first | rfl | assumption | exact nt (by assumption) | exact nf (by assumption)) (ev_skip (et (sq (ev_blk (sq (rg (xm rfl rfl ?_)))))))))))))))))))))))))))))
     first | refine xo (q_index 0 ttOk rfl rfl (by omega)) rfl ?_ | refine xo (q_index 1 ttOk rfl rfl (by omega)) rfl ?_
     refine evl_e (e_alloc ttOk rfl rfl rfl rfl) (xs rfl rfl (xst ttOk rfl rfl (nl (et (ev_drawq [7] mo (rdk_take 0 rfl (by kernel_rfl) trivial (q_move rfl) rfl (rdk_take 1 rfl (by kernel_rfl) trivial (q_load ttOk rfl) rfl (rdk_take 2 rfl (by kernel_rfl) trivial (q_move rfl) rfl ?_))))))))
     first | refine rdk_take 3 rfl (by kernel_rfl) trivial (q_ix_arr 0 ttOk rfl rfl (by omega)) rfl ?_ | refine rdk_take 3 rfl (by kernel_rfl) trivial (q_ix_arr 1 ttOk rfl rfl (by omega)) rfl ?_
     refine rdk_take 4 rfl (by kernel_rfl) trivial (q_load ttOk rfl) rfl (rdk_one 5 (by kernel_rfl) ?_)
     first | refine rdo_call (nm := 46) rfl trivial (cf rfl) (c_Fallen' t.a (pk F 0 ((F.length + 1) / 2))) (rs_of rfl) rfl rfl rfl ?_ | refine rdo_call (nm := 46) rfl trivial (cf rfl) (c_Fallen' t.b (pk F 1 (F.length / 2))) (rs_of rfl) rfl rfl rfl ?_
     first | refine rdk_take 6 rfl (by kernel_rfl) trivial (q_ix_arr 0 ttOk rfl rfl (by omega)) rfl ?_ | refine rdk_take 6 rfl (by kernel_rfl) trivial (q_ix_arr 1 ttOk rfl rfl (by omega)) rfl ?_
     refine rdk_one 7 (by kernel_rfl) (rdo_brk rfl rfl trivial (e_store ttOk rfl) (rdb_endq (by kernel_rfl) (eb (et (rg (xa rfl rfl rfl (by omega) rfl (xm rfl rfl (nl (eve_again (ev_pr [2, 4, 5, 8, 36, 37] rfl (ev_remB [10] rfl (sq (rg (xb ttOk rfl rfl (nl (et (sq (ev_cond_kt rfl (by first | rfl | assumption | exact nt (by assumption) | exact nf (by assumption)) (ev_skip (et (sq (ev_blk (sq (rg (xm rfl rfl ?_)))))))))))))))))))))))))
     first | refine xo (q_index 0 ttOk rfl rfl (by omega)) rfl ?_ | refine xo (q_index 1 ttOk rfl rfl (by omega)) rfl ?_
     refine evl_e (e_alloc ttOk rfl rfl rfl rfl) (xs rfl rfl (xst ttOk rfl rfl (nl (et (ev_drawq [7] mo (rdk_take 0 rfl (by kernel_rfl) trivial (q_move rfl) rfl (rdk_take 1 rfl (by kernel_rfl) trivial (q_load ttOk rfl) rfl (rdk_take 2 rfl (by kernel_rfl) trivial (q_move rfl) rfl ?_))))))))
     first | refine rdk_take 3 rfl (by kernel_rfl) trivial (q_ix_arr 0 ttOk rfl rfl (by omega)) rfl ?_ | refine rdk_take 3 rfl (by kernel_rfl) trivial (q_ix_arr 1 ttOk rfl rfl (by omega)) rfl ?_
     refine rdk_take 4 rfl (by kernel_rfl) trivial (q_load ttOk rfl) rfl (rdk_one 5 (by kernel_rfl) ?_)
     first | refine rdo_call (nm := 1000046) rfl trivial (cf rfl) (c_Fallen' t.a (pk F 0 ((F.length + 1) / 2))) (rs_of rfl) rfl rfl rfl ?_ | refine rdo_call (nm := 1000046) rfl trivial (cf rfl) (c_Fallen' t.b (pk F 1 (F.length / 2))) (rs_of rfl) rfl rfl rfl ?_
     first | refine rdk_take 6 rfl (by kernel_rfl) trivial (q_ix_arr 0 ttOk rfl rfl (by omega)) rfl ?_ | refine rdk_take 6 rfl (by kernel_rfl) trivial (q_ix_arr 1 ttOk rfl rfl (by omega)) rfl ?_
     refine rdk_one 7 (by kernel_rfl) (rdo_brk rfl rfl trivial (e_store ttOk rfl) (rdb_endq (by kernel_rfl) (eb (et (rg (xa rfl rfl rfl (by omega) rfl (xm rfl rfl (nl (eve_again (ev_pr [2, 4, 5, 8, 36, 37] rfl (ev_remB [10] rfl (sq (rg (xb ttOk rfl rfl (nl (et (sq (ev_cond_kf rfl (by first | rfl | assumption | exact nt (by assumption) | exact nf (by assumption)) (ev_exit (evx_then (evx_then (evx_hit (et (sq (rg (xl ttOk rfl rfl (evl_callv (cf rfl) hands_twoOf rfl rfl rfl rfl (xst ttOk rfl rfl (nl (et (ev_ret (ret_pureN ttOk rfl rfl ?_))))))))))))))))))))))))))))))))
     first
     | (rw [bf_no (by assumption)]; simp [RpLe, L2, RcLe, zeroD, zeroT]; done)
     | (rw [bf_yes60 (by assumption)]; simp [RpLe, L2, RcLe]; done)
     | (rw [bf_yes (by assumption)]; simp [RpLe, L2, RcLe, half, halfN]; done)
theorem c_FallenLog (n : LogN) (F : List Int) (hF : F.length ≤ 1048576) : Pure Tryz.prog 31 [many (logC n), one (ints F)] [many' (logR (fallenLogF n F))] := by
 refine pure_intro (N := 14) Tryz.func31 rfl rfl rfl rfl (fun H w => ?_)
 refine sq (rg (evl_e (e_box rfl rfl rfl rfl) (evl_e (e_alloc ttOk rfl rfl rfl rfl) (nl (et (sq (sq (rg (xl ttOk rfl rfl (evl_call (nm := 6) (cf rfl) (c_LogOk n) (rs_of rfl) rfl rfl rfl (xo (q_not rfl) rfl (nl (et (ev_cond_n rfl (fun h1 => ?_) (fun h1 => ?_)))))))))))))))
 · refine sq (rg (xo (q_build ttOk rfl) rfl (xst ttOk rfl rfl (nl (et (ev_ret (evr_then (ret_pureN ttOk rfl rfl ?_))))))))
   first
   | (rw [fl_no (by assumption)]; simp [RpLe, L2, RcLe, zeroL, zeroD, zeroT, noHead]; done)
   | (rw [fl_yes (by assumption)]; simp [RpLe, L2, RcLe, noHead]; done)
 · refine ev_skip (et (sq (rg (xf ttOk rfl rfl (xl ttOk rfl rfl (xm rfl rfl (evl_call (nm := 12) (cf rfl) (c_BothFallen n.two F hF) (rs_of rfl) rfl rfl rfl (xo (q_build ttOk rfl) rfl (xst ttOk rfl rfl (nl (et (ev_ret (ret_pureN ttOk rfl rfl ?_)))))))))))))
   first
   | (rw [fl_no (by assumption)]; simp [RpLe, L2, RcLe, zeroL, zeroD, zeroT, noHead]; done)
   | (rw [fl_yes (by assumption)]; simp [RpLe, L2, RcLe, noHead]; done)
theorem c_FallenLog' (n : LogN) (F : List Int) (hF : F.length ≤ 1048576) : Pure Tryz.prog 33 [many (logC n), one (ints F)] [many' (logR (fallenLogF n F))] := by
 refine pure_intro (N := 14) Tryz.func33 rfl rfl rfl rfl (fun H w => ?_)
 refine sq (rg (evl_e (e_box rfl rfl rfl rfl) (evl_e (e_alloc ttOk rfl rfl rfl rfl) (nl (et (sq (sq (rg (xl ttOk rfl rfl (evl_call (nm := 6) (cf rfl) (c_LogOk2 n) (rs_of rfl) rfl rfl rfl (xo (q_not rfl) rfl (nl (et (ev_cond_n rfl (fun h1 => ?_) (fun h1 => ?_)))))))))))))))
 · refine sq (rg (xo (q_build ttOk rfl) rfl (xst ttOk rfl rfl (nl (et (ev_ret (evr_then (ret_pureN ttOk rfl rfl ?_))))))))
   first
   | (rw [fl_no (by assumption)]; simp [RpLe, L2, RcLe, zeroL, zeroD, zeroT, noHead]; done)
   | (rw [fl_yes (by assumption)]; simp [RpLe, L2, RcLe, noHead]; done)
 · refine ev_skip (et (sq (rg (xf ttOk rfl rfl (xl ttOk rfl rfl (xm rfl rfl (evl_call (nm := 12) (cf rfl) (c_BothFallen' n.two F hF) (rs_of rfl) rfl rfl rfl (xo (q_build ttOk rfl) rfl (xst ttOk rfl rfl (nl (et (ev_ret (ret_pureN ttOk rfl rfl ?_)))))))))))))
   first
   | (rw [fl_no (by assumption)]; simp [RpLe, L2, RcLe, zeroL, zeroD, zeroT, noHead]; done)
   | (rw [fl_yes (by assumption)]; simp [RpLe, L2, RcLe, noHead]; done)

end Go.Proofs.YtphaggopgdbojaaGreat
namespace Go.Proofs.YtphaggopgdbojaaGreat
open Go.ChangeShapes Go.WideShapes Go.ChangeAt Go.RowKit
set_option linter.unusedVariables false
set_option linter.unusedSimpArgs false
set_option maxHeartbeats 1000000
set_option maxRecDepth 100000
attribute [local irreducible] EvL Ev EvE Quiet Eff Pure RDk RDb RDo
theorem rowOk_of {l : List Int} (h1 : l.length ≤ 48) (h2 : NumsOk l) : rowOk l = true := by
  simp only [rowOk, Bool.and_eq_true, decide_eq_true_eq, List.all_eq_true]
  exact ⟨h1, h2⟩
theorem rowOk_torn {a b : List Int} (ha : rowOk a = true) (hb : rowOk b = true) : rowOk (tornF a b) = true := by
  obtain ⟨h1, h2⟩ := rowOk_nums ha
  obtain ⟨h3, h4⟩ := rowOk_nums hb
  refine rowOk_of ?_ fun x hx => ?_
  · simp only [tornF, List.length_append, List.length_take, List.length_drop]; omega
  · rcases List.mem_append.1 hx with hx | hx
    · exact h2 x (List.mem_of_mem_take hx)
    · exact h4 x (List.mem_of_mem_drop hx)
theorem rowOk_nil : rowOk [] = true := by decide
theorem wait_ok {d : Disk} (h : diskOk d = true) {k : Nat} (hk : k < d.wait.length) : hasAt d d.wait[k].1 = true ∧ rowOk d.wait[k].2 = true := by
  have := (diskOk_sizes h).2.2.2.2 _ (List.getElem_mem hk)
  simp only [writeOk, Bool.and_eq_true] at this
  exact this
theorem fallUp_ok {d : Disk} (h : diskOk d = true) (F : List Int) (all : Bool) : ∀ k, k ≤ d.wait.length → ∀ r ∈ fallUp d F all k, rowOk r = true
  | 0, _ => fun r hr => (diskOk_sizes h).2.2.2.1 r hr
  | k + 1, hk => fun r hr => by
    have ih := fallUp_ok h F all k (by omega)
    have hw := wait_ok h (k := k) (by omega)
    rw [show fallUp d F all (k + 1) = fallStep (fateAt F k) all (fallUp d F all k) d.wait[k] by simp only [fallUp]; rw [getD_lenW (show k < d.wait.length by omega)]] at hr
    have key : ∀ z : List Int, rowOk z = true → r ∈ (fallUp d F all k).set d.wait[k].1.toNat z → rowOk r = true := fun z hz hm => by
      rcases List.mem_or_eq_of_mem_set hm with h9 | h9
      · exact ih r h9
      · rw [h9]; exact hz
    simp only [fallStep] at hr
    split at hr
    · exact key _ hw.2 hr
    · split at hr
      · refine key _ (rowOk_torn hw.2 ?_) hr
        rw [List.getD_eq_getElem?_getD]
        cases h9 : (fallUp d F all k)[d.wait[k].1.toNat]? with
        | none => exact rowOk_nil
        | some r9 => exact ih r9 (List.mem_of_getElem? h9)
      · exact ih r hr
theorem fall_ok {d : Disk} (h : diskOk d = true) (F : List Int) (all : Bool) : diskOk (fallF d F all) = true := by
  rw [fall_yes h]
  have h1 := diskOk_sizes h
  have h2 := fallUp_len d F all d.wait.length
  simp only [diskOk, Bool.and_eq_true, decide_eq_true_eq, List.all_eq_true, List.length_nil]
  exact ⟨by omega, by omega, by omega, fun r hr => fallUp_ok h F all _ (Nat.le_refl _) r hr, by simp⟩
theorem fall_len {d : Disk} (h : diskOk d = true) (F : List Int) (all : Bool) : (fallF d F all).kept.length = d.kept.length := by
  rw [fall_yes h]; exact fallUp_len d F all _
theorem twoOk_iff {t : Two} : twoOk t = true ↔ diskOk t.a = true ∧ diskOk t.b = true ∧ t.a.kept.length = t.b.kept.length := by simp [twoOk]
theorem bfall_ok {t : Two} {F : List Int} (h : twoOk t = true) : twoOk (bothFallenF t F) = true := by
  obtain ⟨h1, h2, h3⟩ := twoOk_iff.1 h
  rw [bf_yes h]
  exact twoOk_iff.2 ⟨fall_ok h1 _ _, fall_ok h2 _ _, by rw [fall_len h1, fall_len h2, h3]⟩
theorem keptOk_iff {t : Two} : keptOk t = true ↔ twoOk t = true ∧ t.a.kept.length = 22 := by simp [keptOk]
theorem log_all {n : LogN} (h : logOkF n = true) : keptOk n.two = true ∧ headOk n.head = true ∧ bookOk n.book = true ∧ n.book.base = n.head.base ∧ n.book.time = n.head.time := by
  simp only [logOkF, frontF, Bool.and_eq_true, decide_eq_true_eq] at h
  exact ⟨h.1.1, h.1.2.1, h.1.2.2.1, h.1.2.2.2.1, h.1.2.2.2.2⟩
theorem log_two {n : LogN} (h : logOkF n = true) : twoOk n.two = true := (keptOk_iff.1 (log_all h).1).1
theorem zeroL_sm : smL zeroL := ⟨smT_zero, by decide, by decide, by decide, by decide, by decide⟩
theorem fallen_sm (n : LogN) (F : List Int) : smL (fallenLogF n F) := by
  cases h : logOkF n
  · rw [fl_no h]; exact zeroL_sm
  · rw [fl_yes h]
    exact ⟨smT_ok (bfall_ok (log_two h)), by simp [noHead], by simp [noHead], by simp, by simp, by simp⟩
end Go.Proofs.YtphaggopgdbojaaGreat
namespace Go.Proofs.YtphaggopgdbojaaGreat
open Go.ChangeShapes Go.WideShapes Go.ChangeAt Go.RowKit
set_option linter.unusedVariables false
set_option linter.unusedSimpArgs false
set_option maxHeartbeats 1000000
set_option maxRecDepth 100000
attribute [local irreducible] EvL Ev EvE Quiet Eff Pure RDk RDb RDo
attribute [local irreducible] q2 q3 q4 q5 q6 q7
theorem L_FallenLog (n : LogN) (F : List Int) : Pure Tryz.prog 6 [many (logC n), one (ints F)] (bR true) := by
 refine pure_intro (N := 90) Tryz.func6 rfl rfl rfl rfl (fun H w => ?_)
 refine ev_lenm (t := 1) rfl (fun hLF => ?_)
 refine sq (rg (evl_e (e_box rfl rfl rfl rfl) (xs rfl rfl (nl (et (sq (sq (rg (xm rfl rfl (xo (q_len_map ttOk rfl rfl) rfl (xb ttOk rfl rfl (nl (et (ev_cond rfl (fun h1 => ?_) (fun h1 => ?_)))))))))))))))
 · have d1 := of_decide_eq_true h1
   refine sq (rg (xs rfl rfl (nl (et (ev_ret (evr_then (ret_pure' ttOk rfl rfl ?_)))))))
   rfl
 · have d1 := of_decide_eq_false h1
   refine ev_skip (et (sq (rg (xs rfl rfl (nl (et (sq (rg (xl ttOk rfl rfl (xm rfl rfl (evl_call (nm := 19) (cf rfl) (z_log n _ (by omega)) (rs_of rfl) rfl rfl rfl (xs rfl rfl (nl (et (sq (sq (rg (xm rfl rfl (xb ttOk rfl rfl (nl (et (ev_cond rfl (fun h2 => ?_) (fun h2 => ?_)))))))))))))))))))))))
   · have d2 := of_decide_eq_true h2
     refine sq (rg (xs rfl rfl (nl (et (ev_ret (evr_then (ret_pure' ttOk rfl rfl ?_)))))))
     rfl
   · have d2 := of_decide_eq_false h2
     have e2 := szB_pos d2
     have hT : logSz n ≤ 1048576 := by omega
     have hsm := smL_of hT
     have hq7 := q_at (q := 1) (n := n) (by omega) hsm
     have c1 := c_FallenLog n F (by omega)
     have c2 := c_FallenLog' n F (by omega)
     have hsmr := (fallen_sm n F)
     generalize fallenLogF n F = r at c1 c2 hsmr
     have hq9r := q_at (q := 1) (n := r) (by omega) hsmr
     refine ev_skip (et (sq (rg (xl ttOk rfl rfl (evl_call (nm := 23) (cf rfl) (t_log n (by assumption)) (rs_of rfl) rfl rfl rfl (xm rfl rfl (evl_call (nm := 25) (cf rfl) (t_ints _ (by omega)) (rs_of rfl) rfl rfl rfl (evl_call (nm := 26) (cf rfl) c1 (rs_of rfl) rfl rfl rfl (evl_e (e_alloc ttOk rfl rfl rfl rfl) (xst ttOk rfl rfl (nl (et (sq (rg (xl ttOk rfl rfl (evl_call (nm := 28) (cf rfl) (t_log n (by assumption)) (rs_of rfl) rfl rfl rfl (evl_e (e_alloc ttOk rfl rfl rfl rfl) (xst ttOk rfl rfl (nl (et (sq (rg (xm rfl rfl (evl_call (nm := 30) (cf rfl) (t_ints _ (by omega)) (rs_of rfl) rfl rfl rfl (xs rfl rfl (nl (et (sq (rg (xl ttOk rfl rfl (xm rfl rfl (evl_call (nm := 33) (cf rfl) c2 (rs_of rfl) rfl rfl rfl (evl_e (e_alloc ttOk rfl rfl rfl rfl) (xst ttOk rfl rfl (nl (et (ev_pr [1, 2, 4, 6, 7, 8, 9, 10, 11, 12, 13, 34, 35, 36, 37, 38, 39, 40, 41, 42, 43, 44, 45, 46, 47, 48, 49, 50, 51, 52, 53, 54, 55, 56, 57, 58, 59, 60, 61, 62, 63, 64, 65, 66, 67, 68, 69, 70, 71, 72, 73, 74, 75, 76, 77, 78, 79, 80, 81, 82, 83, 84, 85, 86, 87, 88, 89] rfl (sq (sq (rg (xl ttOk rfl rfl (xl ttOk rfl rfl ?_))))))))))))))))))))))))))))))))))))))))))
     first | refine evl_call (nm := 36) (cf rfl) (e_log n) (rs_of rfl) rfl rfl rfl ?_ | refine evl_call (nm := 36) (cf rfl) (e_log r) (rs_of rfl) rfl rfl rfl ?_
     refine xo (q_notL rfl) rfl (nl (et (ev_cond_kf rfl rfl (ev_skip (et (sq (sq (ev_drawq [] mo (rdk_take 0 rfl (by kernel_rfl) trivial (q_load ttOk rfl) rfl (rdk_take 1 rfl (by kernel_rfl) trivial (q_load ttOk rfl) rfl (rdk_one 2 (by kernel_rfl) (rdo_call (nm := 40) rfl trivial (cf rfl) (t_log n (by assumption)) (rs_of rfl) rfl rfl rfl (rdk_one 3 (by kernel_rfl) ?_)))))))))))))
     first | refine rdo_call (nm := 41) rfl trivial (cf rfl) (e_log n) (rs_of rfl) rfl rfl rfl ?_ | refine rdo_call (nm := 41) rfl trivial (cf rfl) (e_log r) (rs_of rfl) rfl rfl rfl ?_
     refine rdk_take 4 rfl (by kernel_rfl) trivial (q_notL rfl) rfl (rdk_endq (by kernel_rfl) (et (ev_cond_kf rfl rfl (ev_skip (et (sq (sq (rg (xm rfl rfl (xm rfl rfl (evl_call (nm := 45) (cf rfl) (t_ints _ (by omega)) (rs_of rfl) rfl rfl rfl (evl_call (nm := 46) (cf rfl) (e_ints _) (rs_of rfl) rfl rfl rfl (xo (q_notL rfl) rfl (nl (et (ev_cond_kf rfl rfl (ev_skip (et (sq (rg (xs rfl rfl (nl (et (sq (rg (xl ttOk rfl rfl (xm rfl rfl ?_)))))))))))))))))))))))))))
     first | refine evl_mark (cf rfl) rfl rfl rfl (m_log _ _ _ _ _ _ _ _ _ n 1 (by omega) hsm) rfl rfl rfl ?_ | refine evl_mark (cf rfl) rfl rfl rfl (m_log _ _ _ _ _ _ _ _ _ r 1 (by omega) hsmr) rfl rfl rfl ?_
     refine xs rfl rfl (nl (et (sq (rg (xm rfl rfl (xm rfl rfl (evl_mark (cf rfl) rfl rfl rfl (m_ints _ F (q7 1 n) (by omega)) rfl rfl rfl (xs rfl rfl (nl (et (sq (sq (rg (xm rfl rfl (xb ttOk rfl rfl (xm rfl rfl (go (decide_eq_false (by omega)) rfl rfl (q_load ttOk rfl) rfl (go (decide_eq_false (by omega)) rfl rfl (q_load ttOk rfl) rfl ?_))))))))))))))))))
     first | refine evl_callg rfl rfl (decide_eq_false (by omega)) (nm := 59) (cf rfl) (e_log n) (rs_of rfl) rfl rfl rfl ?_ | refine evl_callg rfl rfl (decide_eq_false (by omega)) (nm := 59) (cf rfl) (e_log r) (rs_of rfl) rfl rfl rfl ?_
     refine go (decide_eq_false (by omega)) rfl rfl (q_notL rfl) rfl (xo (q_pick_f rfl (decide_eq_false (by omega)) rfl) rfl (nl (et (ev_cond_kf rfl rfl (ev_skip (et (ev_pr [1, 2, 4, 6, 9, 11, 12, 13, 62, 63, 64, 65, 66, 67, 68, 69, 70, 71, 72, 73, 74, 75, 76, 77, 78, 79, 80, 81, 82, 83, 84, 85, 86, 87, 88, 89] rfl (sq (rg (xs rfl rfl (nl (et (sq (rg (xl ttOk rfl rfl (xm rfl rfl ?_))))))))))))))))
     first | refine evl_mark (cf rfl) rfl rfl rfl (m_log _ _ _ _ _ _ _ _ _ n 1 (by omega) hsm) rfl rfl rfl ?_ | refine evl_mark (cf rfl) rfl rfl rfl (m_log _ _ _ _ _ _ _ _ _ r 1 (by omega) hsmr) rfl rfl rfl ?_
     refine xs rfl rfl (nl (et (sq (rg (xs rfl rfl (nl (et (sq (rg (xl ttOk rfl rfl (xm rfl rfl (evl_call (nm := 67) (cf rfl) (h_log r 1 _ rfl (by omega) hsmr) (rs_of rfl) rfl rfl rfl (xs rfl rfl (nl (et (sq (sq (rg (xm rfl rfl (xb ttOk rfl rfl (nl (et (ev_cond_kf rfl (decide_eq_false (by omega)) (ev_skip (et (sq (sq (rg (xm rfl rfl (xm rfl rfl (xb ttOk rfl rfl (nl (et (ev_cond_kf rfl (decide_eq_false (by omega)) (ev_skip (et (sq (rg (xl ttOk rfl rfl (evl_call (nm := 74) (cf rfl) (t_log n (by assumption)) (rs_of rfl) rfl rfl rfl (xm rfl rfl (evl_call (nm := 76) (cf rfl) (t_ints _ (by omega)) (rs_of rfl) rfl rfl rfl (evl_call (nm := 77) (cf rfl) c2 (rs_of rfl) rfl rfl rfl (evl_e (e_alloc ttOk rfl rfl rfl rfl) (xst ttOk rfl rfl (nl (et (sq (sq (rg ?_))))))))))))))))))))))))))))))))))))))))))))))))))
     refine xl ttOk rfl rfl (xl ttOk rfl rfl ?_)
     first | refine evl_call (nm := 80) (cf rfl) (e_log n) (rs_of rfl) rfl rfl rfl ?_ | refine evl_call (nm := 80) (cf rfl) (e_log r) (rs_of rfl) rfl rfl rfl ?_
     refine xo (q_notL rfl) rfl (nl (et (ev_cond_kf rfl rfl (ev_skip (et (ev_pr [4, 9, 11, 12, 82, 83, 84, 85, 86, 87, 88, 89] rfl (sq (rg (xs rfl rfl (nl (et (sq (rg (xl ttOk rfl rfl (xm rfl rfl (evl_call (nm := 84) (cf rfl) (h_log r 1 _ rfl (by omega) hsmr) (rs_of rfl) rfl rfl rfl (xs rfl rfl (nl (et (sq (sq (rg (xm rfl rfl (xb ttOk rfl rfl (nl (et (ev_cond_kf rfl (decide_eq_false (by omega)) (ev_skip (et (sq (sq (rg (xm rfl rfl (xm rfl rfl (xb ttOk rfl rfl (nl (et (ev_cond_kf rfl (decide_eq_false (by omega)) (ev_skip (et (sq (rg (xs rfl rfl (nl (et (ev_ret (ret_pure' ttOk rfl rfl ?_)))))))))))))))))))))))))))))))))))))))))))))))
     rfl

end Go.Proofs.YtphaggopgdbojaaGreat
