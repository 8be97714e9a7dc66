/- Drawn regions with draws whose orders meet again. No program in it. -/
import Derived.Test.YtahkjonokeifmaaGreatRaVDB
import Derived.Deep.QuietTactic
import Derived.BigQuiet
import Derived.Test.YtahkjonokeifmaaGreatRaVN
namespace Go.Proofs.YtahkjonokeifmaaGreat
open Go.ChangeShapes Go.WideShapes Go.ChangeAt Go.RowKit
set_option linter.unusedVariables false
section
variable {P : Program} {X : Cx} {S : St} {ρ : Rho} {a : Act} {w : World} {TT : List (Nat × TI)} {T : List (Nat × AV)} {B : List (Nat × Nat × List AC)} {R : RL} {M : List (Nat × (Int → Option Value))}
@[reducible] def uV (x : Int) : AV := .p false [.c (.v (.int .u64 x))]
theorem q_umul {t yt : TypeId} {x y : Operand} {m n : Int} (hx : opv S.T x = some (uV m)) (hy : opv S.T y = some (uV n)) : Quiet P X S (.binOp .mul t x y yt) (uV (IntKind.u64.wrap (m * n))) := by
 refine quiet_of fun ρ a w hs => ⟨.int .u64 (IntKind.u64.wrap (m * n)), ⟨⟨0, rfl, rfl⟩, trivial⟩, fun _ _ _ _ _ w' => ?_⟩
 have hp : a.eval x = .int .u64 m := rd_v (opv_rep hs hx).1
 have hq : a.eval y = .int .u64 n := rd_v (opv_rep hs hy).1
 simp [execOp, hp, hq, binOp, Op.intArith, cmp_guard]
theorem q_uadd {t yt : TypeId} {x y : Operand} {m n : Int} (hx : opv S.T x = some (uV m)) (hy : opv S.T y = some (uV n)) : Quiet P X S (.binOp .add t x y yt) (uV (IntKind.u64.wrap (m + n))) := by
 refine quiet_of fun ρ a w hs => ⟨.int .u64 (IntKind.u64.wrap (m + n)), ⟨⟨0, rfl, rfl⟩, trivial⟩, fun _ _ _ _ _ w' => ?_⟩
 have hp : a.eval x = .int .u64 m := rd_v (opv_rep hs hx).1
 have hq : a.eval y = .int .u64 n := rd_v (opv_rep hs hy).1
 simp [execOp, hp, hq, binOp, Op.intArith, cmp_guard]
theorem q_ushr {t yt : TypeId} {x y : Operand} {m : Int} (hx : opv S.T x = some (uV m)) (hy : opv S.T y = some (uV 33)) : Quiet P X S (.binOp .shr t x y yt) (uV (m / 8589934592)) := by
 refine quiet_of fun ρ a w hs => ⟨.int .u64 (m / 8589934592), ⟨⟨0, rfl, rfl⟩, trivial⟩, fun _ _ _ _ _ w' => ?_⟩
 have hp : a.eval x = .int .u64 m := rd_v (opv_rep hs hx).1
 have hq : a.eval y = .int .u64 33 := rd_v (opv_rep hs hy).1
 have h := shift_shr .u64 .u64 m 33 (by decide) (by decide)
 rw [show (2 : Int) ^ (33 : Int).toNat = 8589934592 by decide] at h
 simp [execOp, hp, hq, binOp, cmp_guard, h]
theorem q_uand {t yt : TypeId} {x y : Operand} {m n : Int} (hx : opv S.T x = some (uV m)) (hy : opv S.T y = some (uV n)) : Quiet P X S (.binOp .and t x y yt) (uV (bits BinOp.and .u64 m n)) := by
 refine quiet_of fun ρ a w hs => ⟨.int .u64 (bits BinOp.and .u64 m n), ⟨⟨0, rfl, rfl⟩, trivial⟩, fun _ _ _ _ _ w' => ?_⟩
 have hp : a.eval x = .int .u64 m := rd_v (opv_rep hs hx).1
 have hq : a.eval y = .int .u64 n := rd_v (opv_rep hs hy).1
 simp [execOp, hp, hq, binOp, cmp_guard, intBits_and]
theorem q_cv {src dst : TypeId} {x : Operand} {k k2 j : IntKind} {n : Int} (hs : P.underlying src = some (.int k)) (hd : P.underlying dst = some (.int k2)) (hx : opv S.T x = some (.p false [.c (.v (.int j n))])) : Quiet P X S (.convert src dst x) (.p false [.c (.v (.int k2 (k2.wrap n)))]) := by
 refine quiet_of fun ρ a w hs2 => ⟨.int k2 (k2.wrap n), ⟨⟨0, rfl, rfl⟩, trivial⟩, fun _ _ _ _ _ w' => ?_⟩
 have hp : a.eval x = .int j n := rd_v (opv_rep hs2 hx).1
 simp [execOp, hp, convert, run_underlying hs, run_underlying hd, Conv.intToInt]
theorem qw_nilc {x : Operand} {b o : Nat} (hx : opv S.T x = some (.p false [.pb b o])) : QuietW P X S (.nilCheck x) (.p false [.pb b o]) := by
 refine fun ρ a w hs => ⟨.pointer (some ⟨ρ.box b, o, none⟩), ⟨rfl, trivial⟩, fun _ _ _ _ _ w' => ?_⟩
 have hp : a.eval x = .pointer (some ⟨ρ.box b, o, none⟩) := (opv_rep hs hx).1
 simp [execOp, hp]
theorem q_nilc {x : Operand} {b o : Nat} (hx : opv S.T x = some (.p false [.pb b o])) : Quiet P X S (.nilCheck x) (.p false [.pb b o]) := (qw_nilc hx).q
theorem evl_src {Q : Exit → Act → World → Prop} {ops : Array Oper} {rest : List Oper} {v0 : Value} {l : List Int} (t : Nat) (hx : lk T t = some (.p false [.c (.v v0)])) (hr : RdX X.H (bytes l) v0) (h : EvL P X ops rest Q ⟨(t, .p false [.c (bytes l)]) :: T, B, R, M⟩) : EvL P X ops rest Q ⟨T, B, R, M⟩ := fun ρ a w hs => by
 obtain ⟨v, h1, h2⟩ := hs.T t _ hx
 have e : v = v0 := rd_v h2.1
 subst e
 exact h ρ a w (hs.know h1 ⟨by show RdX ρ.H (bytes l) v; rw [hs.df.2]; exact hr, trivial⟩)
theorem ev_src {Q : Exit → Act → World → Prop} {c : Code} {v0 : Value} {l : List Int} (t : Nat) (hx : lk T t = some (.p false [.c (.v v0)])) (hr : RdX X.H (bytes l) v0) (h : Ev P X c Q ⟨(t, .p false [.c (bytes l)]) :: T, B, R, M⟩) : Ev P X c Q ⟨T, B, R, M⟩ := fun ρ a w hs => by
 obtain ⟨v, h1, h2⟩ := hs.T t _ hx
 have e : v = v0 := rd_v h2.1
 subst e
 exact h ρ a w (hs.know h1 ⟨by show RdX ρ.H (bytes l) v; rw [hs.df.2]; exact hr, trivial⟩)
theorem q_load_src {t b o : Nat} {x : Operand} {v0 : Value} {l : List Int} {ty : Nat} {cs : List AC} {i : TI} (hT : TTOk P TT) (hi : lk TT t = some i) (hx : opv S.T x = some (.p false [.pb b o])) (hB : lk S.B b = some (ty, cs)) (hc : cutO o i.size cs = some [.c (.v v0)]) (hg : i.sh.agg = false) (hr : RdX X.H (bytes l) v0) : Quiet P X S (.load t x) (.p false [.c (bytes l)]) := by
 have h0 : qLoad TT S t x = some (.p false [.c (.v v0)]) := by
  unfold qLoad
  rw [hi]
  simp only [hx, hB, hc, hg]
  rfl
 intro ρ a w hs
 obtain ⟨v, h1, h2⟩ := q_load hT h0 ρ a w hs
 have e : v = v0 := rd_v h1.1
 subst e
 exact ⟨v, ⟨by show RdX ρ.H (bytes l) v; rw [hs.df.2]; exact hr, trivial⟩, h2⟩
theorem wrap_u64 (n : Int) : 0 ≤ IntKind.u64.wrap n ∧ IntKind.u64.wrap n ≤ 18446744073709551615 := by
 have e : IntKind.u64.wrap n = n % (2 ^ 64 : Int) := by simp [IntKind.wrap, IntKind.signed, IntKind.bits]
 rw [e]
 have h0 := Int.emod_nonneg n (show (2 ^ 64 : Int) ≠ 0 by decide)
 have h1 := Int.emod_lt_of_pos n (show (0 : Int) < 2 ^ 64 by decide)
 have h2 : (2 ^ 64 : Int) = 18446744073709551616 := by decide
 omega
theorem and_bound (x : Int) (h0 : 0 ≤ x) (h1 : x ≤ 18446744073709551615) : 0 ≤ IntKind.i64.wrap (bits BinOp.and IntKind.u64 x 16777215) ∧ IntKind.i64.wrap (bits BinOp.and IntKind.u64 x 16777215) ≤ 16777215 := by
 have h := bits_and_u64_nat x.toNat 16777215 om om
 rw [Int.toNat_of_nonneg h0] at h
 have h2 : x.toNat &&& 16777215 ≤ 16777215 := Nat.and_le_right
 have h3 : bits BinOp.and IntKind.u64 x 16777215 = ((x.toNat &&& 16777215 : Nat) : Int) := h
 rw [h3]
 generalize x.toNat &&& 16777215 = m at h2
 rw [IntWalk.i64_in _ om]
 omega
def MkPost (TD : Nat) (v0 : Value) (n : Nat) (w : World) (e : Ending) (w' : World) : Prop := ∃ (g : Nat) (δ : DS n), e = .returned (.pointer (some ⟨g, 0, none⟩)) ∧ w.heap.size ≤ g ∧ DiceAt TD g v0 δ w' ∧ Below w.heap.size w w'
theorem mk_intro {TD : Nat} {f : FuncId} {fn : Func} {c : Code} {N : Nat} {k : Int} (hf : P.funcs[f]? = some fn) (hb : fn.body = some c) (hN : fn.ntmps = N) (hl : Nat.ble 2 N = true)
  (h : ∀ H w v0 (l : List Int), RdX H (bytes l) v0 → (∀ x ∈ l, 0 ≤ x ∧ x ≤ 255) → l.length ≤ 4096 → Ev P ⟨N, w, [], H, [], []⟩ c (bodyPost P fn (MkPost TD v0 l.length w)) ⟨[(0, .p false [.c (.v v0)]), (1, uV k)], [], [], []⟩) : MkRoll P TD f k := by
 intro H w v0 n hH hs
 obtain ⟨l, rfl, h2, h3, h4⟩ := hs
 refine calls_of_wp hf hb ?_
 have hle := Nat.le_of_ble_eq_true hl
 refine h H w v0 l h2 h3 h4 ⟨H, fun _ => 0, fun _ => undef, fun _ => [], fun _ => []⟩ _ w ⟨⟨hH, by simp, by simp, by simp, by simp [feet], by simp [feet]⟩, fun t av ht => ?_, ⟨rfl, rfl⟩, ⟨by simp [hN]; omega, by simp⟩, Chg.refl _ _, by simp [feet]⟩
 have ht' : (if 0 = t then some (AV.p false [.c (.v v0)]) else if 1 = t then some (uV k) else none) = some av := ht
 split at ht'
 ·rename_i e; subst e; cases ht'
  exact ⟨v0, by show (#[v0, Value.int .u64 k] ++ _)[0]? = _; rw [Array.getElem?_append_left (by simp)]; rfl, ⟨⟨0, rfl, h2.one⟩, trivial⟩⟩
 ·split at ht'
  ·rename_i e; subst e; cases ht'
   exact ⟨.int .u64 k, by show (#[v0, Value.int .u64 k] ++ _)[1]? = _; rw [Array.getElem?_append_left (by simp)]; rfl, ⟨⟨0, rfl, rfl⟩, trivial⟩⟩
  ·cases ht'
theorem ret_mk {TD : Nat} {fn : Func} {N n nb : Nat} {w0 : World} {H : Nat → Option Obj} {v0 : Value} (δ : DS n) (hT : TTOk P TT) (h1 : retPs TT S fn.results.toList = some [(false, [.pb nb 0])]) (hB : lk S.B nb = some (TD, diceA v0 δ)) : EvE ⟨N, w0, [], H, [], []⟩ .ret (bodyPost P fn (MkPost TD v0 n w0)) S := by
 intro ρ a w hs
 obtain ⟨us, h3, h4⟩ := results_ok hT hs h1
 obtain ⟨u, rfl, h5⟩ := h3.one
 have hu : u = .pointer (some ⟨ρ.box nb, 0, none⟩) := h5.1
 subst hu
 refine ⟨hs.df.1, _, h4, ρ.box nb, δ, rfl, ?_, dice_heap hs hB, hs.fr.below⟩
 rcases hs.ft _ (box_feet hB) with h9 | h9
 ·have h9 : ρ.box nb ∈ ([] : List Nat) := h9
  simp at h9
 ·exact h9
end
section
variable {P : Program} {X : Cx} {S : St} {ρ : Rho} {a : Act} {w : World} {TT : List (Nat × TI)}
theorem sub_own {r n' k j m ty : Nat} {rows : List (List C)} {row : List C} {c c' : List (List C)} {T : List (Nat × AV)} {B : List (Nat × Nat × List AC)} {R : RL} {M : List (Nat × (Int → Option Value))}
  (hr : lk R r = some (ty, n', rows)) (hk : rows[k]? = some row) (hj : row[j]? = some (.s m c)) (f2 : noBs (mentS r) B = true) (f3 : noK r (eraR r R) = true) (hs : Sim X ρ ⟨T, B, R, M⟩ a w) :
  ∃ (v : Value) (G : List Nat) (ty' : Nat) (xs' : List Value), (ρ.rows r)[k * n' + j]? = some v ∧ OwS w ty' m c v xs' G ∧ G.Nodup ∧ ∀ (w' : World) (F1 : List Nat) (ty2 : Nat) (xs2 : List Value), OwS w' ty2 m c' v xs2 F1 → F1.Nodup → (∀ b ∈ F1, b ∈ G ∨ w.heap.size ≤ b) → Chg w w' G →
   ∃ ρ', Sim X ρ' ⟨flT r T, B, (r, ty, n', rows.set k (row.set j (.s m c'))) :: eraR r R, M⟩ a w' := by
 have hnd : (R.flatMap fun x => ρ.foot x.1).Nodup := by
  have := hs.hp.nd
  unfold feet at this
  exact (List.nodup_append.1 (List.nodup_append.1 this).2.1).1
 obtain ⟨j1, j2, j3, j4⟩ := era_own (ρ := ρ) hr hnd
 have how := hs.hp.R _ j2
 obtain ⟨v, ob, G, A, D, hv, hox, hFe, hput⟩ := own_sub how hk hj
 have hFe : ρ.foot r = ob ++ (A ++ (G ++ D)) := hFe
 obtain ⟨ty', xs', hos⟩ := own_typed hox
 have hndr : (ρ.foot r).Nodup := (List.nodup_append.1 j3).1
 have hndG : G.Nodup := by
  rw [hFe] at hndr
  exact (List.nodup_append.1 (List.nodup_append.1 (List.nodup_append.1 hndr).2.1).2.1).1
 have hGd : ∀ b ∈ G, b ∉ ob ++ (A ++ D) := fun b hb hm => by
  rw [hFe] at hndr
  obtain ⟨a1, a2, a3⟩ := List.nodup_append.1 hndr
  obtain ⟨a4, a5, a6⟩ := List.nodup_append.1 a2
  obtain ⟨a7, a8, a9⟩ := List.nodup_append.1 a5
  rcases List.mem_append.1 hm with hm | hm
  ·exact a3 b hm b (List.mem_append_right _ (List.mem_append_left _ hb)) rfl
  ·rcases List.mem_append.1 hm with hm | hm
   ·exact a6 b hm b (List.mem_append_left _ hb) rfl
   ·exact a9 b hb b hm rfl
 have hGf : ∀ b ∈ G, b ∈ ρ.foot r := fun b hb => by rw [hFe]; simp [hb]
 refine ⟨v, G, ty', xs', hv, hos, hndG, fun w' F1 ty2 xs2 ho2 p4 p5 p6 => ?_⟩
 have hsz : ∀ b ∈ ob ++ (A ++ D), b < w.heap.size := fun b hb => by
  refine how.lt b ?_
  show b ∈ ρ.foot r
  rw [hFe]
  simp only [List.mem_append] at hb ⊢
  rcases hb with hb | hb | hb <;> simp [hb]
 have hnew := hput w' F1 (.s m c') (fun b hb => p6.block b (hsz b hb) fun hm => hGd b hm hb) ho2.c
 have hdrop := (hs.weakT (T := flT r T) fun t av ht => by
  rcases flT_lk ht with h9 | ⟨rfl, av', h9⟩
  ·exact .inl h9
  ·refine .inr ⟨rfl, ?_⟩
   obtain ⟨v9, h10, _⟩ := hs.T t av' h9
   rw [← hs.sz.1]
   exact (Array.getElem?_eq_some_iff.1 h10).1).drop (R' := eraR r R) j1 (List.nodup_append.1 j3).2.1 p6 fun b hb => ⟨j4 b (hGf b hb), fun hm => (List.nodup_append.1 j3).2.2 b (hGf b hb) b hm rfl⟩
 have hfs : ∀ b ∈ feet ρ ⟨flT r T, B, eraR r R, M⟩, b ∈ feet ρ ⟨T, B, R, M⟩ := fun b hb => by
  unfold feet at hb ⊢
  rcases List.mem_append.1 hb with hb | hb
  ·exact List.mem_append_left _ hb
  ·rcases List.mem_append.1 hb with hb | hb
   ·obtain ⟨x, hx, hb⟩ := List.mem_flatMap.1 hb
    exact List.mem_append_right _ (List.mem_append_left _ (List.mem_flatMap.2 ⟨x, j1 x hx, hb⟩))
   ·exact List.mem_append_right _ (List.mem_append_right _ hb)
 have hnd0 := hs.hp.nd
 unfold feet at hnd0
 obtain ⟨m1, m2, m3⟩ := List.nodup_append.1 hnd0
 obtain ⟨m4, m5, m6⟩ := List.nodup_append.1 m2
 have hnew2 : (ob ++ (A ++ (F1 ++ D)) ++ []).Nodup := nodup_swap (G := G) (by rw [List.append_nil, ← hFe]; exact hndr) p4 fun b hb => by
  rcases p5 b hb with h9 | h9
  ·exact .inl h9
  ·refine .inr fun hm => ?_
   rw [List.append_nil, ← hFe] at hm
   have := how.lt b hm
   omega
 rw [List.append_nil] at hnew2
 have hfin := hdrop.addback hnew hnew2 (fun b hb => by
  have hc9 : b ∈ ρ.foot r ∨ w.heap.size ≤ b := by
   rw [hFe]
   simp only [List.mem_append] at hb ⊢
   rcases hb with hb | hb | hb | hb
   ·exact .inl (.inl hb)
   ·exact .inl (.inr (.inl hb))
   ·rcases p5 b hb with h9 | h9
    ·exact .inl (.inr (.inr (.inl h9)))
    ·exact .inr h9
   ·exact .inl (.inr (.inr (.inr hb)))
  rcases hc9 with hb2 | hb2
  ·have hbR := j4 b hb2
   have hbf : b ∈ feet ρ ⟨T, B, R, M⟩ := List.mem_append_right _ (List.mem_append_left _ hbR)
   refine ⟨fun hm => ?_, hs.hp.dj b hbf, hs.ft b hbf⟩
   unfold feet at hm
   rcases List.mem_append.1 hm with hm | hm
   ·exact m3 b hm b (List.mem_append_left _ hbR) rfl
   ·rcases List.mem_append.1 hm with hm | hm
    ·exact (List.nodup_append.1 j3).2.2 b hb2 b hm rfl
    ·exact m6 b hbR b hm rfl
  ·refine ⟨fun hm => ?_, ?_, .inr (Nat.le_trans hs.fr.size hb2)⟩
   ·have := hs.hp.lt b (hfs b hm)
    omega
   ·cases ho : ρ.H b with
    | none => rfl
    | some o => have := heap_lt (hs.hp.H b o ho); omega) flT_no f2 f3
 exact ⟨_, hfin⟩
theorem evl_st_sub {T : List (Nat × AV)} {B : List (Nat × Nat × List AC)} {R : RL} {M : List (Nat × (Int → Option Value))} {ops : Array Oper} {rest : List Oper} {Q : Exit → Act → World → Prop} {d tx u ts tst e r n n' k j ty ty1 ty2 q : Nat} {ix : Operand} {pos1 pos2 : String} {af1 af2 : Array Edge} {rows rows' : List (List C)} {row : List C} {c : List (List C)} {i : Int} {kk : IntKind} {val : Value} {inf : TI}
  (hT : TTOk P TT) (ht : eSz TT ts = some (e, 1)) (hi2 : lk TT tst = some inf) (h1 : inf.size = 1) (hx : lk T tx = some (.p false [.sub r n k j])) (hi : opv T ix = some (.p false [.c (.v (.int kk i))])) (him : i = (q : Int)) (hq : q < c.length) (hy : lk T u = some (.p false [.c (.v val)]))
  (hr : lk R r = some (ty, n', rows)) (hn : Nat.beq n' n = true) (hk : rows[k]? = some row) (hj : row[j]? = some (.s 1 c)) (hrows : rows' = rows.set k (row.set j (.s 1 (c.set q [.v val])))) (f2 : noBs (mentS r) B = true) (f3 : noK r (eraR r R) = true) (hN : okD X d = true) (hne : (Nat.beq d u || (Nat.beq d tx || Nat.beq u tx)) = false)
  (h : EvL P X ops rest Q ⟨(d, .no) :: flT r T, B, (r, ty, n, rows') :: eraR r R, M⟩) :
  EvL P X ops (⟨some d, .indexAddr ts (.tmp tx) ix, ty1, pos1, af1, none⟩ :: ⟨none, .store tst (.tmp d) (.tmp u), ty2, pos2, af2, none⟩ :: rest) Q ⟨T, B, R, M⟩ := by
 intro ρ a w hs
 obtain rfl := Nat.eq_of_beq_eq_true hn
 subst hrows him
 obtain ⟨v, G, ty', xs', hv, hos, hndG, hfin⟩ := sub_own (c' := c.set q [.v val]) hr hk hj f2 f3 hs
 have htx : a.tmps[tx]? = some v := by
  obtain ⟨v1, e1, e2⟩ := hs.T tx _ hx
  have e3 : (ρ.rows r)[k * n' + j]? = some v1 := e2.1.1
  rw [hv] at e3
  cases e3
  exact e1
 have hex : a.eval (.tmp tx) = v := by
  show a.tmps.getD tx undef = v
  rw [Array.getD_eq_getD_getElem?, htx]; rfl
 have heq : a.eval ix = .int kk (q : Int) := rd_v (opv_rep hs hi).1
 obtain ⟨ao, cap, hu, h4, h5, h3⟩ := own_slice hos
 obtain ⟨hun, inf1, hin, hsz⟩ := eSz_ok hT ht
 have hz : ¬ c = [] := by intro e9; subst e9; simp at hq
 obtain ⟨g, rfl, hob⟩ := h3.resolve_left hz
 simp only [Bool.or_eq_false_iff] at hne
 have hdu : d ≠ u := fun e9 => by rw [e9] at hne; simp at hne
 have hdx : d ≠ tx := fun e9 => by rw [e9] at hne; simp at hne
 have hux : u ≠ tx := fun e9 => by rw [e9] at hne; simp at hne
 obtain ⟨w1, ew1, hw1⟩ := hs.T u _ hy
 have hdN : d < a.tmps.size := by
  have h9 : Nat.ble (d + 1) X.N = true := (okD_lt hN).1
  have := Nat.le_of_ble_eq_true h9
  rw [hs.sz.1]; omega
 refine wpList_plain rfl fun K hK => ?_
 unfold Oper.wp
 have hrun : (execOp a.eval ⟨some d, .indexAddr ts (.tmp tx) ix, ty1, pos1, af1, none⟩).run P w = .ok (.value (.pointer (some ⟨g, q * 1, none⟩))) w := by
  simp [execOp, Instr.indexAt, hex, hu, heq, asIntOf, run_underlying hun, hq, hin.size' hsz, addr_add]
 rw [hrun]
 refine hK _ _ ?_
 obtain ⟨a1, ha1⟩ : ∃ a1, a1 = a.put (some d) (.pointer (some ⟨g, q * 1, none⟩)) := ⟨_, rfl⟩
 rw [← ha1]
 have t1 : a1.tmps[d]? = some (.pointer (some ⟨g, q * 1, none⟩)) := by
  rw [ha1]; simp only [Act.put]; rw [Array.getElem?_setIfInBounds_self_of_lt hdN]
 have t2 : a1.tmps[u]? = some w1 := by
  rw [ha1]; simp only [Act.put]; rw [Array.getElem?_setIfInBounds_ne hdu]; exact ew1
 have t3 : a1.tmps[tx]? = some v := by
  rw [ha1]; simp only [Act.put]; rw [Array.getElem?_setIfInBounds_ne hdx]; exact htx
 have hw1v : w1 = val := rd_v hw1.1
 have hs0 : Sim ⟨a1.tmps.size, w, G, fun _ => none, [], a1.defers⟩ ⟨fun _ => none, fun _ => 0, fun _ => v, fun _ => xs', fun _ => G⟩ ⟨[], [], [(0, ty', 1, c)], []⟩ a1 w :=
  ⟨⟨by simp, by simp, fun x hx => by rw [List.mem_singleton.1 hx]; exact hos, by simp, by simpa [feet] using hndG, by simp⟩, fun t av ht => (by cases ht), ⟨rfl, rfl⟩, ⟨rfl, by simp⟩, Chg.refl _ _, fun b hb => .inl (by simpa [feet] using hb)⟩
 have hs1 := ((hs0.know (t := tx) (av := .p false [.rt 0]) t3 ⟨⟨rfl, by rw [hu]; rfl⟩, trivial⟩).know (t := u) (av := .p false [.c (.v val)]) t2 ⟨⟨0, by rw [hw1v], (hw1v ▸ hw1.1.one)⟩, trivial⟩).know (t := d) (av := .p false [.pr 0 1 q 0]) t1 ⟨⟨g, hob, rfl⟩, trivial⟩
 have hcq : c[q]? = some c[q] := List.getElem?_eq_getElem hq
 have hrow1 : c[q].length = 1 := by
  obtain ⟨Fs9, ⟨_, hl9, _⟩, _⟩ := hos
  exact hl9 _ (List.getElem_mem hq)
 have hput : putO 0 [C.v val] c[q] = some [C.v val] := by
  match hh : c[q], hrow1 with
  | [y], _ => rfl
 have hlk : ∀ (p : Nat), p ≠ d → p ≠ u → lk [(d, AV.p false [.pr 0 1 q 0]), (u, .p false [.c (.v val)]), (tx, .p false [.rt 0])] p = lk [(tx, AV.p false [.rt 0])] p := fun p h6 h7 => by
  unfold lk
  rw [if_neg (Ne.symm h6)]
  unfold lk
  rw [if_neg (Ne.symm h7)]
  rfl
 have eeff := e_st_pr (P := P) (X := ⟨a1.tmps.size, w, G, fun _ => none, [], a1.defers⟩) (T := [(d, AV.p false [.pr 0 1 q 0]), (u, .p false [.c (.v val)]), (tx, .p false [.rt 0])]) (B := []) (R := [(0, ty', 1, c)]) (M := []) (t := tst) (x := .tmp d) (y := .tmp u) (rows' := c.set q [.v val]) hT hi2
  (by show (if d = d then _ else _) = _; rw [if_pos rfl]) (by show (if d = u then _ else (if u = u then _ else _)) = _; rw [if_neg hdu, if_pos rfl]) (by rw [h1]; rfl) rfl rfl rfl hcq hput rfl rfl rfl rfl
 obtain ⟨ρ', nx, vv, w', g1, g2, g3, _⟩ := eeff _ a1 w hs1
 have hown := g3.hp.R _ (List.mem_cons_self)
 have hown : OwS w' ty' 1 (c.set q [.v val]) (ρ'.root 0) (ρ'.rows 0) (ρ'.foot 0) := hown
 have hroot : ρ'.root 0 = v := by
  obtain ⟨v2, e1, e2⟩ := g3.T tx (.p false [.rt 0]) (by rw [hlk tx (Ne.symm hdx) (Ne.symm hux)]; unfold lk; rw [if_pos rfl])
  have e3 : v2 = ρ'.root 0 := e2.1.1
  have e4 : a1.tmps[tx]? = some v2 := e1
  rw [t3] at e4
  cases e4
  exact e3.symm
 rw [hroot] at hown
 have hfnd : (ρ'.foot 0).Nodup := by
  have := g3.hp.nd
  simp [feet] at this
  exact (List.nodup_append.1 this).1
 obtain ⟨ρ2, hs2⟩ := hfin w' _ _ _ hown hfnd (fun b hb => g3.ft b (by simp [feet, hb])) g3.fr
 refine wpList_plain rfl fun K2 hK2 => ?_
 unfold Oper.wp
 rw [g1]
 have hfinal : Sim X ρ2 ⟨(d, .no) :: flT r T, B, (r, ty, n', rows.set k (row.set j (.s 1 (c.set q [.v val])))) :: eraR r R, M⟩ a1 w' := by
  rw [ha1]
  exact hs2.put hN trivial
 rcases g2 with rfl | ⟨rfl, rfl⟩
 ·exact hK2 _ _ (h ρ2 _ w' hfinal)
 ·exact hK2 _ _ (h ρ2 _ w' hfinal)
end
section
variable {P : Program} {X : Cx} {S : St} {ops : Array Oper} {ks : List Nat} {fuel gg : Nat} {listed : Array Bool} {α : Type} {p : α → Prop} {S' : α → St}
def QSa (X : Cx) (p : α → Prop) (S' : α → St) : Act → World → Prop := fun a w => ∃ y ρ, p y ∧ Sim X ρ (S' y) a w
theorem ev_drawdJ (p : α → Prop) (S' : α → St) {id : Nat} {l : List Oper} {Q : Exit → Act → World → Prop} (ks : List Nat) (g : Nat) (hm : P.follows .mixedOrders = true) (h : RDd P X l.toArray ks g l.toArray.size (Array.replicate l.toArray.size false) S (QSa X p S')) (k : ∀ y, p y → EvE X .normal Q (S' y)) : Ev P X (.region id l.toArray true) Q S :=
 fun ρ a w hs => wp_mono (Q := QK (QSa X p S')) (wp_region_any hm (wpAny_of_K _ _ _ _ (h ρ a w.drew hs.drew))) fun e a' w' hq => by
  cases e with
  | normal => obtain ⟨y, ρ', hp, h'⟩ := hq; exact k y hp ρ' a' w' h'
  | _ => exact hq.elim
theorem rdd_le (y : α) (σ : List (Nat × Nat)) (hr : Region.ready .any ops listed = []) (hp : p y) (hl : Le σ S (S' y)) : RDd P X ops ks gg fuel listed S (QSa X p S') := by
 intro ρ a w hs
 cases fuel with
 | zero => exact ⟨hr, y, _, hp, hs.le hl⟩
 | succ n => exact ⟨fun _ => ⟨y, _, hp, hs.le hl⟩, by rw [hr]; simp⟩
end
end Go.Proofs.YtahkjonokeifmaaGreat
