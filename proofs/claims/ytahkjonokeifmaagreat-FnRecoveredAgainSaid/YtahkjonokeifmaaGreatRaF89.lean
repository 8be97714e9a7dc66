/- Walks of functions of the program, printed by a program of the prover. -/
import Derived.Test.YtahkjonokeifmaaGreatRaF91
import Derived.Test.YtahkjonokeifmaaGreatRaVDF
import Derived.Test.YtahkjonokeifmaaGreatRaVN
import Derived.LaidEql
import Derived.Stop.Asserts
import Derived.RowKitTokens
import Derived.Test.YtahkjonokeifmaaGreatRaF61
import Derived.Test.YtahkjonokeifmaaGreatRaF47
import Derived.Test.YtahkjonokeifmaaGreatRaF22
namespace Go.Proofs.YtahkjonokeifmaaGreat
open Go.ChangeShapes Go.WideShapes Go.ChangeAt Go.RowKit
set_option linter.unusedVariables false
set_option linter.unusedSimpArgs false
set_option maxHeartbeats 1000000
set_option maxRecDepth 100000
attribute [local irreducible] EvL Ev EvE Quiet Eff Pure RDk RDb RDo
def Wl (l : List Entry) : Prop := bookOk ⟨0, 0, l⟩ = true ∧ ∃ c, overL [] l = some c
theorem Wl.step {l : List Entry} (h : Wl l) {j : Nat} (hj : j < l.length) : fitsF ⟨0, 0, l.take j⟩ l[j] = true ∧ ∃ c, overL [] (l.take j) = some c ∧ freshF c l[j] = true := by
 obtain ⟨hb, c, hc⟩ := h
 have hbd := book_bd hb
 have hl : l.length ≤ 20 := hbd.2.2.1
 have hix := ent_ix hb j hj
 have hlen : (l.take j).length = j := by rw [List.length_take]; omega
 have hok := ents_ok hbd.2.2.2.2 _ (List.getElem_mem hj)
 refine ⟨fits_iff.2 ⟨hok, ?_, ?_, by show (l.take j).length < 20; omega⟩, over_fresh hc hj⟩
 ·show l[j].index = lastB ⟨0, 0, l.take j⟩ + 1
  unfold lastB
  simp only [hlen]
  have hix : l[j].index = 0 + 1 + j := hix
  omega
 ·cases j with
  | zero =>
   rw [timeB_nil (by simp)]
   have := (entriesOk_iff.1 hbd.2.2.2.2).2 0 hj
   simp only [entryOk, timeOk, inB, Bool.and_eq_true, decide_eq_true_eq] at hok
   show l[0].time ≥ 0
   omega
  | succ i =>
   rw [timeB_last (m := i) hlen]
   have h1 := (entriesOk_iff.1 hbd.2.2.2.2).2 (i + 1) hj
   simp only [entStep, entOver, List.getElem?_eq_getElem hj, List.getElem?_eq_getElem (show i < l.length by omega), Bool.and_eq_true, decide_eq_true_eq] at h1
   show l[i + 1].time ≥ (l.take (i + 1))[i].time
   rw [List.getElem_take]
   omega
structure Kj (l : List Entry) (d : Int) (j : Nat) (n : LogN) : Prop where
 k : Kl n
 book : n.book = ⟨0, 0, l.take j⟩
 dur : n.durable = d
theorem Kj.new {l : List Entry} : Kj l 0 0 newLogF := ⟨newKl, by simp [newLogF], rfl⟩
structure Wg (l : List Entry) (S : List Int) (t : Int) : Prop where
 bk : bookOk ⟨0, 0, l⟩ = true
 ov : ∃ c, overL [] l = some c ∧ ∀ q : Int, 2 ≤ q → q ≤ 5 → S.getD q.toNat 0 = (findM c q).seq ∧ (findM c q).seq ≤ 2 * l.length
 tm : timeB ⟨0, 0, l⟩ ≤ t ∧ 0 ≤ t ∧ t ≤ 5 * l.length
 sl : S.length = 6
theorem sok_nil : SOk [] := sok_of kr
theorem Wg.new : Wg [] (List.replicate 6 0) 0 := by
 refine ⟨by kernel_rfl, ⟨[], rfl, fun q h1 h2 => ?_⟩, by rw [timeB_nil rfl]; simp, by simp⟩
 have e : (findM [] q).seq = 0 := rfl
 rw [e]
 refine ⟨?_, by simp⟩
 rw [List.getD_eq_getElem?_getD, List.getElem?_replicate_of_lt om]
 rfl
theorem Wg.sq {l : List Entry} {S : List Int} {t : Int} (h : Wg l S t) {q : Int} (h1 : 2 ≤ q) (h2 : q ≤ 5) : 0 ≤ S.getD q.toNat 0 ∧ S.getD q.toNat 0 ≤ 2 * l.length := by
 obtain ⟨c, hc, hq⟩ := h.ov
 obtain ⟨e1, e2⟩ := hq q h1 h2
 have := (find_seq (over_sok sok_nil hc) q).1
 omega
theorem Wg.step {l : List Entry} {S : List Int} {t : Int} (h : Wg l S t) (hl : l.length < 20) {w x d : Int} {o : Ask} (hw : 2 ≤ w ∧ w ≤ 5) (hx : 0 ≤ x ∧ x < 2) (hd : 0 ≤ d ∧ d < 6) (ho : opOk o.kind o.a o.b o.c o.d = true) {i : Int} (hi : i = l.length + 1) {y : Int} (hy : y = S.getD w.toNat 0 + 1 + x) :
  Wg (l ++ [⟨i, t + d, w, y, o.kind, o.a, o.b, o.c, o.d⟩]) (S.set w.toNat y) (t + d) := by
 obtain ⟨c, hc, hq⟩ := h.ov
 obtain ⟨t1, t2, t3⟩ := h.tm
 have hsok := over_sok sok_nil hc
 have hsq := h.sq hw.1 hw.2
 have hsl := h.sl
 obtain ⟨e, he⟩ : ∃ e : Entry, e = ⟨i, t + d, w, y, o.kind, o.a, o.b, o.c, o.d⟩ := ⟨_, rfl⟩
 rw [← he]
 have g1 : e.index = l.length + 1 := by rw [he]; exact hi
 have g2 : e.time = t + d := by rw [he]
 have g3 : e.client = w := by rw [he]
 have g4 : e.seq = y := by rw [he]
 have hok : entryOk e = true := by
  simp only [entryOk, Bool.and_eq_true]
  refine ⟨inB_iff.2 ⟨by omega, by omega⟩, inB_iff.2 ⟨by omega, by omega⟩, inB_iff.2 ⟨by omega, by omega⟩, inB_iff.2 ⟨by omega, by omega⟩, ?_⟩
  rw [he]; exact ho
 have hfit : fitsF ⟨0, 0, l⟩ e = true := fits_iff.2 ⟨hok, by rw [g1]; unfold lastB; simp, by show timeB _ ≤ _; omega, hl⟩
 have hlast : lastF c ≤ l.length := by
  cases hn : l.length with
  | zero =>
   rw [List.eq_nil_of_length_eq_zero hn] at hc
   have : [] = c := Option.some.inj hc
   rw [← this]
   decide
  | succ m =>
   have hm : m < l.length := by omega
   have h8 := over_last (c := c) sok_nil hm (by rw [List.take_of_length_le om]; exact hc)
   have h9 : l[m].index = (0 : Int) + 1 + m := (ent_ix h.bk m hm)
   omega
 have hfr : freshF c e = true := by
  simp only [freshF, hok, Bool.true_and, Bool.and_eq_true, decide_eq_true_eq]
  rw [g3, g4, ← (hq w hw.1 hw.2).1, hy]
  exact ⟨by omega, by omega⟩
 refine ⟨app_ok h.bk hfit, ⟨insF c (eMark e), ?_, fun q h1 h2 => ?_⟩, ?_, by simpa using hsl⟩
 ·rw [overL_snoc, hc]
  simp only [Option.bind_some, hfr, if_true]
 ·have hf : findM (insF c (eMark e)) q = if q = w then eMark e else findM c q := by
   unfold findM
   rw [find_ins]
   show Option.getD (if q = e.client then _ else _) _ = _
   rw [g3]
   split <;> rfl
  rw [hf]
  simp only [List.getD_eq_getElem?_getD]
  split
  ·rename_i e1
   rw [e1, List.getElem?_set_self om]
   refine ⟨g4.symm, ?_⟩
   show e.seq ≤ _
   rw [List.length_append]
   simp only [List.length_cons, List.length_nil]
   omega
  ·rename_i e1
   rw [List.getElem?_set_ne om, ← List.getD_eq_getElem?_getD, List.length_append]
   have := hq q h1 h2
   exact ⟨this.1, by omega⟩
 ·have hl2 : (l ++ [e]).length = l.length + 1 := by simp
  have ht2 : timeB ⟨0, 0, l ++ [e]⟩ = e.time := by rw [timeB_last (m := l.length) (by simp)]; simp
  rw [ht2, hl2, g2]
  omega
def rotOk (d : Disk) (x p v : Int) : Bool := hasAt d x && (inB p 0 (((d.kept.getD x.toNat []).length : Int) - 1) && numOk v)
def rottedF (d : Disk) (x p v : Int) : Disk × Bool := if diskOk d then if rotOk d x p v then (rotD d x.toNat p.toNat v, true) else (d, false) else (zeroD, false)
theorem rott_no {d : Disk} {x p v : Int} (h : diskOk d = false) : rottedF d x p v = (zeroD, false) := by simp [rottedF, h]
theorem rott_fail {d : Disk} {x p v : Int} (h : diskOk d = true) (h2 : rotOk d x p v = false) : rottedF d x p v = (d, false) := by simp [rottedF, h, h2]
theorem rott_yes {d : Disk} {x p v : Int} (h : diskOk d = true) (h2 : rotOk d x p v = true) : rottedF d x p v = (rotD d x.toNat p.toNat v, true) := by simp [rottedF, h, h2]
theorem kept_at {d : Disk} {x : Int} (h : x.toNat < d.kept.length) : d.kept.getD x.toNat [] = d.kept[x.toNat] := by
 rw [List.getD_eq_getElem?_getD, List.getElem?_eq_getElem h]; rfl
theorem rotOk1 {d : Disk} {x p v : Int} (h : hasAt d x = false) : rotOk d x p v = false := by simp [rotOk, h]
theorem rotOk2 {d : Disk} {x p v : Int} (hx : x.toNat < d.kept.length) (h : inB p 0 ((d.kept[x.toNat].length : Int) - 1) = false) : rotOk d x p v = false := by
 unfold rotOk; rw [kept_at hx, h]; simp
theorem rotOk3 {d : Disk} {x p v : Int} (h : inB v 0 1000000000 = false) : rotOk d x p v = false := by
 have : numOk v = false := h
 simp [rotOk, this]
theorem rotOk4 {d : Disk} {x p v : Int} (h1 : hasAt d x = true) (hx : x.toNat < d.kept.length) (h : inB p 0 ((d.kept[x.toNat].length : Int) - 1) = true) (h3 : inB v 0 1000000000 = true) : rotOk d x p v = true := by
 have h4 : numOk v = true := h3
 unfold rotOk; rw [kept_at hx, h, h1, h4]; rfl
theorem rot_rows {d : Disk} {x : Int} {p : Nat} {v : Int} (h : x.toNat < d.kept.length) : ((rotD d x.toNat p v).kept.map fun r => [ints r]) = (d.kept.map fun r => [ints r]).set x.toNat ([ints d.kept[x.toNat]].set 0 (.s 1 ((d.kept[x.toNat].map fun y => [iC y]).set p [.v (.int .i64 v)]))) := by
 unfold rotD
 simp only [kept_at h, List.map_set, List.set_cons_zero, ints]
theorem eqL_same (l : List Int) : eqL l l = true := by simp [eqL]
def safeF (d : Disk) : Bool := diskOk d && decide (d.wait.length = 0)
theorem c_SafeIn' (d : Disk) : Pure Tryz.prog 34 [many (diskC d)] (bR (safeF d)) := by
 refine pure_intro (N := 11) Tryz.func34 rfl rfl rfl rfl (fun H w => ?_)
 refine sq (rg (evl_e (e_box rfl rfl rfl rfl) (xs rfl rfl (nl (et (sq (rg (xl ttOk rfl rfl (evl_call (nm := 4) (cf rfl) (c_DiskOk' d) (rs_of rfl) rfl rfl rfl (xm rfl rfl (evl_part rfl rfl (fun h1 => ?_) (fun h1 => ?_))))))))))))
 ·refine go h1 rfl rfl (q_fieldAddr ttOk rfl) rfl (go h1 rfl rfl (q_load ttOk rfl) rfl (go h1 rfl rfl (q_len_map ttOk rfl rfl) rfl (go h1 rfl rfl (q_bin ttOk rfl) rfl (xo (q_pick_t rfl h1 rfl) rfl (xs rfl rfl (nl (et (ev_ret (ret_pure' ttOk rfl rfl (congrArg bR (?_ : _ = _)))))))))))
  simp_all [safeF]
 ·refine gn h1 rfl rfl rfl (gn h1 rfl rfl rfl (gn h1 rfl rfl rfl (gn h1 rfl rfl rfl (xo (q_pick_f rfl h1 rfl) rfl (xs rfl rfl (nl (et (ev_ret (ret_pure' ttOk rfl rfl (congrArg bR (?_ : _ = _)))))))))))
  simp_all [safeF]
theorem c_EqualIn1 (D : Disk) (h : diskOk D = true) (hw : D.wait = []) : Pure Tryz.prog 11 [many (twoC ⟨D, D⟩)] (bR true) := by
 refine pure_intro (N := 39) Tryz.func11 rfl rfl rfl rfl (fun H w => ?_)
 have hs := diskOk_sizes h
 have hsf : safeF D = true := by simp [safeF, h, hw]
 have htw : twoOk ⟨D, D⟩ = true := by simp [twoOk, h]
 refine sq (rg (evl_e (e_box rfl rfl rfl rfl) (xs rfl rfl (nl (et (sq (sq (rg (xl ttOk rfl rfl (evl_call (nm := 6) (cf rfl) (c_TwoOk' ⟨D, D⟩) (rs_of rfl) rfl rfl rfl (xo (q_not rfl) rfl (xm rfl rfl (go (nf htw) rfl rfl (q_fieldAddr ttOk rfl) rfl (go (nf htw) rfl rfl (q_load ttOk rfl) rfl (evl_callg rfl rfl (nf htw) (nm := 11) (cf rfl) (c_SafeIn' D) (rs_of rfl) rfl rfl rfl (go (nf htw) rfl rfl (q_not rfl) rfl (xo (q_pick_f rfl (nf htw) rfl) rfl (xm rfl rfl (go (nf hsf) rfl rfl (q_fieldAddr ttOk rfl) rfl (go (nf hsf) rfl rfl (q_load ttOk rfl) rfl (evl_callg rfl rfl (nf hsf) (nm := 17) (cf rfl) (c_SafeIn' D) (rs_of rfl) rfl rfl rfl (go (nf hsf) rfl rfl (q_not rfl) rfl (xo (q_pick_f rfl (nf hsf) rfl) rfl (nl (et (ev_cond_kf rfl (nf hsf) (ev_skip (et (sq (sq (rg (xf ttOk rfl rfl (xf ttOk rfl rfl (xl ttOk rfl rfl (xo (q_len_map ttOk rfl rfl) rfl (xm rfl rfl (nl (et (ev_blk (ev_loop (fun k : Nat => (⟨[(24, iV k), (22, cV (rows D.kept)), (23, iV D.kept.length), (1, pbV 1 0)], [(1, 32, [.c (rows D.kept), .c (writes D.wait), .c (rows D.kept), .c (writes D.wait)])], [], []⟩ : St)) (fun k => k ≤ D.kept.length) (fun k => D.kept.length - k) 0 [] (by simp) lei ?_))))))))))))))))))))))))))))))))))))))))
 intro k hp
 have p0 := hp
 show Ev _ _ _ _ (⟨[(24, iV k), (22, cV (rows D.kept)), (23, iV D.kept.length), (1, pbV 1 0)], [(1, 32, [.c (rows D.kept), .c (writes D.wait), .c (rows D.kept), .c (writes D.wait)])], [], []⟩ : St)
 refine sq (rg (xb ttOk rfl rfl (nl (et (sq (ev_cond rfl (fun h1 => ?_) (fun h1 => ?_)))))))
 ·try have d1 := of_decide_eq_true h1
  refine ev_skip (et (sq (ev_blk (sq (rg (xm rfl rfl (xo (q_ix_map ttOk rfl rfl rfl rfl om) rfl (xl ttOk rfl rfl (xs rfl rfl (xs rfl rfl (nl (et (sq (rg (xm rfl rfl (xf ttOk rfl rfl (xf ttOk rfl rfl (xl ttOk rfl rfl (xm rfl rfl (xo (q_ix_map ttOk rfl rfl rfl rfl om) rfl (xl ttOk rfl rfl (evl_call (nm := 36) (cf rfl) (c_SameRow' (D.kept[k]'om) (D.kept[k]'om)) (rs_of rfl) rfl rfl rfl (xo (q_not rfl) rfl (nl (et (ev_cond_kf rfl (nf (eqL_same _)) (ev_skip (eb (et (rg (xa rfl rfl rfl om rfl (xm rfl rfl (nl (eve_round (k + 1) [] ?hp lei))))))))))))))))))))))))))))))))))
  case hp => exact ⟨by omega, by omega⟩
 ·try have d1 := of_decide_eq_false h1
  refine ev_exit (evx_then (evx_then (evx_hit (et (sq (rg (xs rfl rfl (nl (et (ev_ret (ret_pure' ttOk rfl rfl ?_)))))))))))
  rfl
theorem up_over {t : Two} {h : Head} : ∀ k, overL h.seen (bookUp t h k).1.entries = some (bookUp t h k).2 ∧ (bookUp t h k).1.base = h.base ∧ (bookUp t h k).1.time = h.time
 | 0 => ⟨rfl, rfl, rfl⟩
 | k + 1 => by
  obtain ⟨h1, h2, h3⟩ := up_over (t := t) (h := h) k
  cases hn : nextE t (bookUp t h k).1 (bookUp t h k).2 with
  | none => simp only [bookUp, hn]; exact ⟨h1, h2, h3⟩
  | some e =>
   simp only [bookUp, hn]
   have hf : freshF (bookUp t h k).2 e = true := by
    unfold nextE at hn
    obtain ⟨row, _, hr⟩ := List.exists_of_findSome?_eq_some hn
    exact (takeE_some hr).2.1
   refine ⟨?_, h2, h3⟩
   show overL h.seen ((bookUp t h k).1.entries ++ [e]) = _
   rw [overL_snoc, h1]
   simp [hf]
theorem rec_again {t : Two} (h : (recF t).2.2.2 = true) : ∃ (hd : Head) (es : List Entry), recF t = (⟨recD hd es, recD hd es⟩, hd, ⟨hd.base, hd.time, es⟩, true) ∧ headOk hd = true ∧ bookOk ⟨hd.base, hd.time, es⟩ = true ∧
  Rest ⟨recD hd es, recD hd es⟩ ∧ ∀ F : List Int, recF (bothFallenF ⟨recD hd es, recD hd es⟩ F) = (⟨recD hd es, recD hd es⟩, hd, ⟨hd.base, hd.time, es⟩, true) := by
 have hi : (headIn t).2 = true := by
  cases hx : (headIn t).2 with
  | true => rfl
  | false => rw [rec_no hx] at h; cases h
 obtain ⟨r1, r2, hk⟩ := rec_head h
 have hh := headIn_ok hi
 obtain ⟨hd, hhd⟩ : ∃ hd, hd = (headIn t).1 := ⟨_, rfl⟩
 rw [← hhd] at hh
 obtain ⟨u1, u2, u3⟩ := up_over (t := t) (h := hd) 20
 have eb : bookInF t hd = (bookUp t hd 20).1 := by simp [bookInF, hk, hh]
 obtain ⟨es, hes⟩ : ∃ es, es = (bookUp t hd 20).1.entries := ⟨_, rfl⟩
 have eb2 : bookInF t hd = ⟨hd.base, hd.time, es⟩ := by
  rw [eb]
  cases hb : (bookUp t hd 20).1 with
  | mk x y z =>
   rw [hb] at u2 u3 hes
   simp only at u2 u3 hes
   rw [u2, u3, hes]
 have hbk : bookOk ⟨hd.base, hd.time, es⟩ = true := by rw [← eb2]; exact bookIn_ok hk hh
 have ho : overL hd.seen es = some (bookUp t hd 20).2 := by rw [hes]; exact u1
 have ei : headIn t = (hd, true) := by rw [hhd, ← hi]
 obtain ⟨e1, e2⟩ := rec_run hk ei hh eb2 hbk
 refine ⟨hd, es, e1, hh, hbk, e2, fun F => ?_⟩
 have hj := riseJ hh hbk ho e2
 obtain ⟨hd2, es2, m, c, h1, h2, h3, h4, h5, h6⟩ := hj.rise F
 rcases h1 with ⟨k1, k2⟩ | ⟨hm, _⟩
 ·have k1 : hd2 = hd := k1
  have k2 : es2 = es := k2
  rw [k1] at h2 h5
  rw [k2] at h3 h5
  have h2 : lastB ⟨hd.base, hd.time, es⟩ ≤ hd.base + m := h2
  have h3 : m ≤ es.length := h3
  have hme : es.take m = es := List.take_of_length_le (by unfold lastB at h2; dsimp only at h2; omega)
  have h5 : risenF (bothFallenF ⟨recD hd es, recD hd es⟩ F) = (riseL hd (es.take m) c, true) := h5
  rw [hme] at h5
  cases hr : (recF (bothFallenF ⟨recD hd es, recD hd es⟩ F)).2.2.2 with
  | false => rw [ri_no hr] at h5; injection h5 with _ h5; cases h5
  | true =>
   rw [ri_yes hr] at h5
   injection h5 with h5 _
   generalize recF (bothFallenF ⟨recD hd es, recD hd es⟩ F) = z at h5 hr
   obtain ⟨z1, z2, z3, z4⟩ := z
   simp only [riseL, LogN.mk.injEq] at h5 hr
   obtain ⟨g1, g2, _, _, g3, _⟩ := h5
   rw [g1, g2, g3, hr]
 ·cases hm
end Go.Proofs.YtahkjonokeifmaaGreat
