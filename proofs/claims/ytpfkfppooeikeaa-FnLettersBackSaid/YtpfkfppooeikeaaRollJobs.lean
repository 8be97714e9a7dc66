/- Walks of functions of the program, printed by a program of the prover. -/
import Derived.Test.YtpfkfppooeikeaaRollOp
import Derived.Test.YtpfkfppooeikeaaJobsC
import Derived.Test.YtpfkfppooeikeaaJobs
import Derived.WalkKit
import Derived.WalkSpells
import Derived.Deep.QuietTactic
import Derived.BigQuiet
import Derived.Deep.Light
import Derived.Lib.Hide
import Derived.Deep.RegionHeld3
namespace Go.Proofs.Ytpfkfppooeikeaa
open Go.ChangeShapes Go.WideShapes Go.ChangeAt Go.RowKit Go.Deep
set_option maxHeartbeats 1600000
set_option maxRecDepth 100000

theorem OwnA.kept {α : Type} {E : Enc α} {w w' : World} {lo ty : Nat} {v : Value} {l : List α} {row : Option Nat} (h : OwnA E w lo ty v l) (hg : w.grownBy w' row) (hne : ∀ k, v.ownBlock = some k → row = some k → False) : OwnA E w' lo ty v l :=
  ⟨h.1, h.2.1, h.2.2.kept hg (by
    cases hv : v.ownBlock with
    | none => simp
    | some k =>
      cases row with
      | none => simp
      | some r => simp; intro e; subst e; exact hne _ hv rfl)⟩
/-- the open jobs that have been made so far -/
def DuesTo (m : Nat) (D : List (Int × Int)) (t : Int) : Prop :=
  ∀ j, (h : j < D.length) → D[j].1 = 12 - (m : Int) + j ∧ 0 ≤ D[j].2 ∧ D[j].2 ≤ t ∧ ∀ i, (hi : i < j) → (D[i]'(Nat.lt_trans hi h)).2 ≤ D[j].2
theorem DuesTo.zero (m : Nat) (t : Int) : DuesTo m [] t := fun _ h => absurd h (Nat.not_lt_zero _)
theorem DuesTo.step {m : Nat} {D : List (Int × Int)} {t t' : Int} (h : DuesTo m D t) (h0 : 0 ≤ t') (ht : t ≤ t') {k : Int} (hk : k = 12 - (m : Int) + D.length) : DuesTo m (D ++ [(k, t')]) t' := by
  intro j hj
  rw [List.length_append] at hj
  simp only [List.length_cons, List.length_nil] at hj
  by_cases hlt : j < D.length
  · obtain ⟨h1, h2, h3, h4⟩ := h j hlt
    rw [List.getElem_append_left hlt]
    refine ⟨h1, h2, by omega, fun i hi => ?_⟩
    rw [List.getElem_append_left (by omega)]
    exact h4 i hi
  · obtain rfl : j = D.length := by omega
    rw [List.getElem_append_right (Nat.le_refl _)]
    simp only [Nat.sub_self, List.getElem_cons_zero]
    refine ⟨hk, h0, Int.le_refl _, fun i hi => ?_⟩
    rw [List.getElem_append_left hi]
    exact Int.le_trans (h i hi).2.2.1 ht
theorem DuesTo.ok {m : Nat} {D : List (Int × Int)} {t : Int} (h : DuesTo m D t) (hl : D.length = m) (hm : m ≤ 8) (ht : t ≤ 1000000) : openOk D = true := by
  refine openOk_good (by omega) fun i hi => ?_
  obtain ⟨h1, h2, h3, h4⟩ := h i hi
  rw [dueOk_eq hi, Bool.and_eq_true]
  refine ⟨?_, ?_⟩
  · simp only [dueOk1, inB, Bool.and_eq_true, decide_eq_true_eq]
    refine ⟨⟨by omega, by omega⟩, ?_⟩
    cases i with
    | zero => rfl
    | succ q =>
      have hq : q < D.length := by omega
      have h5 := h4 q (Nat.lt_succ_self q)
      have h6 := (h q hq).1
      simp only [prevOk, List.getD_eq_getElem?_getD, List.getElem?_eq_getElem hq, Option.getD_some, dueLess, Bool.or_eq_true, Bool.and_eq_true, decide_eq_true_eq, beq_iff_eq]
      omega
  · rw [Bool.not_eq_true', ← Bool.not_eq_true]
    intro h9
    rw [any_take hi] at h9
    obtain ⟨j, hj, h9⟩ := h9
    have h6 := (h j (by omega)).1
    omega
def RetJobs9 (w : World) (g : Nat) (e : Ending) (w' : World) : Prop :=
  ∃ (i t h el u : Int) (D : List (Int × Int)) (ao : Option Addr) (cap : Nat), e = .returned (.agg #[.int .i64 i, .int .i64 t, .int .i64 h, .int .i64 el, .int .i64 u, .slice ao D.length cap]) ∧ jobsOk i t h el u D = true ∧ OwnA dueE w' w.heap.size 113 (.slice ao D.length cap) D ∧ Dice w' g ∧ w.grownBy w' (some g)
theorem c_w9Jobs (g : Nat) (w : World) (hD : Dice w g) : Calls Try.prog 86 #[.pointer (some ⟨g, 0, none⟩)] w (RetJobs9 w g) := by
  obtain ⟨j0, hj, hj0, hj1, hj2⟩ := info_parts info_Due
  have hlt := hD.lt
  have hBz := Bx.new w [.int .i64 0, .int .i64 0, .int .i64 0, .int .i64 0, .int .i64 0, .slice none 0 0] 99
  have hFz := Fx.new w [.int .i64 0, .int .i64 0, .int .i64 0, .int .i64 0, .int .i64 0, .slice none 0 0] 99
  have hG := World.grownBy_alloc w (.cells ([.int .i64 0, .int .i64 0, .int .i64 0, .int .i64 0, .int .i64 0, .slice none 0 0] : List Value).toArray 99) (some g)
  replace hD := hD.alloc (.cells ([.int .i64 0, .int .i64 0, .int .i64 0, .int .i64 0, .int .i64 0, .slice none 0 0] : List Value).toArray 99)
  go_enter Try.func86, Try.ntmps86
  go_wp2_with fail
  refine (c_below g _ _ hD (by omega) (by omega)).mono ?_
  rintro e wi ⟨i, rfl, i0, i1, hDq, hgq⟩
  have hsq := hgq.size
  (first | simp only [World.size_setCell] at hsq | simp only [World.size_alloc] at hsq | skip)
  replace hD := hDq
  replace hG := hG.trans hgq
  replace hBz := hBz.grown hgq (fun e => by have h7 := Option.some.inj e; omega)
  replace hFz := hFz.grown hgq (fun e => by have h7 := Option.some.inj e; omega)
  clear hDq hgq
  go_wp2_with fail
  refine (c_below g _ _ hD (by omega) (by omega)).mono ?_
  rintro e wt ⟨t, rfl, t0, t1, hDq, hgq⟩
  have hsq := hgq.size
  (first | simp only [World.size_setCell] at hsq | simp only [World.size_alloc] at hsq | skip)
  replace hD := hDq
  replace hG := hG.trans hgq
  replace hBz := hBz.grown hgq (fun e => by have h7 := Option.some.inj e; omega)
  replace hFz := hFz.grown hgq (fun e => by have h7 := Option.some.inj e; omega)
  clear hDq hgq
  have hAB : w.heap.size < wt.heap.size := hBz.1
  replace hBz := hBz.alloc (.cells ([.int .i64 i, .int .i64 t, .int .i64 0, .int .i64 0, .int .i64 0, .slice none 0 0] : List Value).toArray 99)
  replace hFz := hFz.alloc (.cells ([.int .i64 i, .int .i64 t, .int .i64 0, .int .i64 0, .int .i64 0, .slice none 0 0] : List Value).toArray 99)
  replace hD := hD.alloc (.cells ([.int .i64 i, .int .i64 t, .int .i64 0, .int .i64 0, .int .i64 0, .slice none 0 0] : List Value).toArray 99)
  replace hG := grown_allocNew hG (.cells ([.int .i64 i, .int .i64 t, .int .i64 0, .int .i64 0, .int .i64 0, .slice none 0 0] : List Value).toArray 99)
  have hBx := Bx.new wt [.int .i64 i, .int .i64 t, .int .i64 0, .int .i64 0, .int .i64 0, .slice none 0 0] 99
  have hFx := Fx.new wt [.int .i64 i, .int .i64 t, .int .i64 0, .int .i64 0, .int .i64 0, .slice none 0 0] 99
  go_wp2_with fail
  refine (c_below g _ _ hD (by omega) (by omega)).mono ?_
  rintro e wh ⟨h, rfl, h0, h1, hDq, hgq⟩
  have hsq := hgq.size
  (first | simp only [World.size_setCell] at hsq | simp only [World.size_alloc] at hsq | skip)
  replace hD := hDq
  replace hG := hG.trans hgq
  replace hBz := hBz.grown hgq (fun e => by have h7 := Option.some.inj e; omega)
  replace hFz := hFz.grown hgq (fun e => by have h7 := Option.some.inj e; omega)
  replace hBx := hBx.grown hgq (fun e => by have h7 := Option.some.inj e; omega)
  replace hFx := hFx.grown hgq (fun e => by have h7 := Option.some.inj e; omega)
  clear hDq hgq
  by_cases e0 : 0 < h
  · skip
    go_wp2_with fail
    refine (c_below g _ _ hD (by omega) (by omega)).mono ?_
    rintro e wb ⟨b, rfl, b0, b1, hDq, hgq⟩
    have hsq := hgq.size
    (first | simp only [World.size_setCell] at hsq | simp only [World.size_alloc] at hsq | skip)
    replace hD := hDq
    replace hG := hG.trans hgq
    replace hBz := hBz.grown hgq (fun e => by have h7 := Option.some.inj e; omega)
    replace hFz := hFz.grown hgq (fun e => by have h7 := Option.some.inj e; omega)
    replace hBx := hBx.grown hgq (fun e => by have h7 := Option.some.inj e; omega)
    replace hFx := hFx.grown hgq (fun e => by have h7 := Option.some.inj e; omega)
    clear hDq hgq
    have q0 := hBx.2
    have q1 := hFx.2
    go_wp2_with fail
    clear q0 q1
    replace hBx := hBx.set 2 (.int .i64 (2 + b)) (by simp)
    replace hFx := hFx.set ⟨wt.heap.size, 2, none⟩ (.int .i64 (2 + b))
    replace hBz := hBz.setOther ⟨wt.heap.size, 2, none⟩ (.int .i64 (2 + b)) (by simp; omega)
    replace hFz := hFz.set ⟨wt.heap.size, 2, none⟩ (.int .i64 (2 + b))
    replace hD := hD.set ⟨wt.heap.size, 2, none⟩ (.int .i64 (2 + b)) (by simp; omega)
    replace hG := grown_setNew hG ⟨wt.heap.size, 2, none⟩ (.int .i64 (2 + b)) (by simp; omega)
    simp only [List.set_cons_succ, List.set_cons_zero] at hBx
    refine (c_below g _ _ hD (by omega) (by omega)).mono ?_
    rintro e wc ⟨c, rfl, c0, c1, hDq, hgq⟩
    have hsq := hgq.size
    (first | simp only [World.size_setCell] at hsq | simp only [World.size_alloc] at hsq | skip)
    replace hD := hDq
    replace hG := hG.trans hgq
    replace hBz := hBz.grown hgq (fun e => by have h7 := Option.some.inj e; omega)
    replace hFz := hFz.grown hgq (fun e => by have h7 := Option.some.inj e; omega)
    replace hBx := hBx.grown hgq (fun e => by have h7 := Option.some.inj e; omega)
    replace hFx := hFx.grown hgq (fun e => by have h7 := Option.some.inj e; omega)
    clear hDq hgq
    have q0 := hBx.2
    have q1 := hFx.2
    go_wp2_with fail
    clear q0 q1
    replace hBx := hBx.set 3 (.int .i64 (1 + c)) (by simp)
    replace hFx := hFx.set ⟨wt.heap.size, 3, none⟩ (.int .i64 (1 + c))
    replace hBz := hBz.setOther ⟨wt.heap.size, 3, none⟩ (.int .i64 (1 + c)) (by simp; omega)
    replace hFz := hFz.set ⟨wt.heap.size, 3, none⟩ (.int .i64 (1 + c))
    replace hD := hD.set ⟨wt.heap.size, 3, none⟩ (.int .i64 (1 + c)) (by simp; omega)
    replace hG := grown_setNew hG ⟨wt.heap.size, 3, none⟩ (.int .i64 (1 + c)) (by simp; omega)
    simp only [List.set_cons_succ, List.set_cons_zero] at hBx
    replace hG := hG.andThen (grown_of_below (Below.refl _ _).drew) (fun j hj => by cases hj)
    refine restS_begin (fun W => w.grownBy W (some g)) (by kernel_rfl) hG ?_
    clear hG
    replace hBx := hBx.drew
    replace hFx := hFx.drew
    replace hBz := hBz.drew
    replace hFz := hFz.drew
    replace hD := hD.below (Below.refl _ _).drew
    refine restS_take (v := ?_) 0 rfl (by kernel_rfl) (by kernel_rfl) (by kernel_rfl) (fun _ _ _ h => h) (by rfl) ?_ ?_
    rotate_left
    · intro w9 h9; try dsimp only at h9
      go_split_ands
      go_simp; try with_reducible rfl
    try simp only [Act.put, List.setIfInBounds_toArray, List.set_cons_zero, List.set_cons_succ]
    refine restS_take (v := ?_) 2 rfl (by kernel_rfl) (by kernel_rfl) (by kernel_rfl) (fun _ _ _ h => h) (by rfl) ?_ ?_
    rotate_left
    · intro w9 h9; try dsimp only at h9
      go_split_ands
      go_simp; try with_reducible rfl
    try simp only [Act.put, List.setIfInBounds_toArray, List.set_cons_zero, List.set_cons_succ]
    refine restS_two 1 3 rfl rfl (by kernel_rfl) (by rfl) (by rfl) (fun hS K hK => ?_) (fun hS K hK => ?_)
    · skip
      have q0 := hBx.2
      go_wp2_with fail
      clear q0
      refine hK.out _ _ hS ?_
      try simp only [Act.put, List.setIfInBounds_toArray, List.set_cons_zero, List.set_cons_succ]
      clear hK K hS
      refine restS_alone 3 rfl (by kernel_rfl) (by rfl) (fun hS K hK => ?_)
      go_wp2_with fail
      refine (c_below g _ _ hD (by omega) (by omega)).mono ?_
      rintro e wu ⟨u, rfl, u0, u1, hDq, hgq⟩
      have hsq := hgq.size
      (first | simp only [World.size_setCell] at hsq | simp only [World.size_alloc] at hsq | skip)
      replace hD := hDq
      have hS2 := hS.trans hgq
      replace hBz := hBz.grown hgq (fun e => by have h7 := Option.some.inj e; omega)
      replace hFz := hFz.grown hgq (fun e => by have h7 := Option.some.inj e; omega)
      replace hBx := hBx.grown hgq (fun e => by have h7 := Option.some.inj e; omega)
      replace hFx := hFx.grown hgq (fun e => by have h7 := Option.some.inj e; omega)
      clear hDq hgq
      refine hK.out _ _ hS2 ?_
      try simp only [Act.put, List.setIfInBounds_toArray, List.set_cons_zero, List.set_cons_succ]
      clear hK K hS
      clear hS2
      refine restS_take (v := ?_) 4 rfl (by kernel_rfl) (by kernel_rfl) (by kernel_rfl) (fun _ _ _ h => h) (by rfl) ?_ ?_
      rotate_left
      · intro w9 h9; try dsimp only at h9
        go_split_ands
        go_simp; try with_reducible rfl
      try simp only [Act.put, List.setIfInBounds_toArray, List.set_cons_zero, List.set_cons_succ]
      refine restS_take (v := ?_) 5 rfl (by kernel_rfl) (by kernel_rfl) (by kernel_rfl) (fun _ _ _ h => h) (by rfl) ?_ ?_
      rotate_left
      · intro w9 h9; try dsimp only at h9
        go_split_ands
        go_simp; try with_reducible rfl
      try simp only [Act.put, List.setIfInBounds_toArray, List.set_cons_zero, List.set_cons_succ]
      refine restS_alone 6 rfl (by kernel_rfl) (by rfl) (fun hS K hK => ?_)
      have q0 := hBx.2
      have q1 := hFx.2
      go_wp2_with fail
      clear q0 q1
      replace hBx := hBx.set 4 (.int .i64 (t + u)) (by simp)
      replace hFx := hFx.set ⟨wt.heap.size, 4, none⟩ (.int .i64 (t + u))
      replace hBz := hBz.setOther ⟨wt.heap.size, 4, none⟩ (.int .i64 (t + u)) (by simp; omega)
      replace hFz := hFz.set ⟨wt.heap.size, 4, none⟩ (.int .i64 (t + u))
      replace hD := hD.set ⟨wt.heap.size, 4, none⟩ (.int .i64 (t + u)) (by simp; omega)
      have hS2 := grown_setNew hS ⟨wt.heap.size, 4, none⟩ (.int .i64 (t + u)) (by simp; omega)
      simp only [List.set_cons_succ, List.set_cons_zero] at hBx
      refine hK.out _ _ hS2 ?_
      try simp only [Act.put, List.setIfInBounds_toArray, List.set_cons_zero, List.set_cons_succ]
      clear hK K hS
      clear hS2
      refine restS_done (by kernel_rfl) (fun hS => ?_)
      have hG := hS
      clear hS
      have hw9 : IntKind.i64.wrap (t + u) = t + u := IntWalk.i64_in _ (by omega)
      rw [hw9]
      clear hw9
      go_wp2_with fail
      refine (c_below g _ _ hD (by omega) (by omega)).mono ?_
      rintro e wv ⟨v, rfl, v0, v1, hDq, hgq⟩
      have hsq := hgq.size
      (first | simp only [World.size_setCell] at hsq | simp only [World.size_alloc] at hsq | skip)
      replace hD := hDq
      replace hG := hG.trans hgq
      replace hBz := hBz.grown hgq (fun e => by have h7 := Option.some.inj e; omega)
      replace hFz := hFz.grown hgq (fun e => by have h7 := Option.some.inj e; omega)
      replace hBx := hBx.grown hgq (fun e => by have h7 := Option.some.inj e; omega)
      replace hFx := hFx.grown hgq (fun e => by have h7 := Option.some.inj e; omega)
      clear hDq hgq
      go_wp2_with fail
      refine (c_below g _ _ hD (by omega) (by omega)).mono ?_
      rintro e wn ⟨n, rfl, n0, n1, hDq, hgq⟩
      have hsq := hgq.size
      (first | simp only [World.size_setCell] at hsq | simp only [World.size_alloc] at hsq | skip)
      replace hD := hDq
      replace hG := hG.trans hgq
      replace hBz := hBz.grown hgq (fun e => by have h7 := Option.some.inj e; omega)
      replace hFz := hFz.grown hgq (fun e => by have h7 := Option.some.inj e; omega)
      replace hBx := hBx.grown hgq (fun e => by have h7 := Option.some.inj e; omega)
      replace hFx := hFx.grown hgq (fun e => by have h7 := Option.some.inj e; omega)
      clear hDq hgq
      obtain ⟨ho, el, uu, hBx, Hj⟩ : ∃ ho el uu : Int, Bx wn wt.heap.size [.int .i64 i, .int .i64 t, .int .i64 ho, .int .i64 el, .int .i64 uu, .slice none 0 0] ∧ Hid (∀ D, openOk D = true → jobsOk i t ho el uu D = true) := ⟨_, _, _, hBx, fun D h9 => by simp [jobsOk, inB, h9]; omega⟩
      obtain ⟨m, rfl⟩ : ∃ m : Nat, n = m := ⟨n.toNat, by omega⟩
      have hOw := ownA_nil dueE wn (wt.heap.size + 1) 113
      have HOw := Lib.hid hOw
      clear hOw
      have HG := Lib.hid hG
      clear hG
      have HD := Lib.hid hD
      clear hD
      go_wp2_with fail
      go_loopw [4, 5] (fun v i9 wr => ∃ (k : Nat) (tt : Int) (D : List (Int × Int)) (ao' : Option Addr) (cap' : Nat), v = .int .i64 tt ∧ i9 = .int .i64 k ∧ D.length + k = m ∧ 0 ≤ tt ∧ tt ≤ 8 + 4 * (D.length : Int) ∧ Hid (DuesTo m D tt) ∧ Bx wr wt.heap.size [.int .i64 i, .int .i64 t, .int .i64 ho, .int .i64 el, .int .i64 uu, .slice ao' D.length cap'] ∧ Fx wr wt.heap.size ∧ Bx wr w.heap.size [.int .i64 0, .int .i64 0, .int .i64 0, .int .i64 0, .int .i64 0, .slice none 0 0] ∧ Fx wr w.heap.size ∧ OwnA dueE wr (wt.heap.size + 1) 113 (.slice ao' D.length cap') D ∧ Dice wr g ∧ w.grownBy wr (some g))
        (fun _ i9 _ => (intOf i9).toNat)
      case atStart => exact ⟨m, v, [], none, 0, rfl, rfl, by simp, v0, by simp; omega, DuesTo.zero _ _, hBx, hFx, hBz, hFz, HOw.out, HD.out, HG.out⟩
      case round =>
        clear hBx hFx hBz hFz HG HD HOw
        obtain ⟨k, tt, D, ao', cap', rfl, rfl, hDk, ht0, ht1, HDu, hBx, hFx, hBz, hFz, hOw, hD, hG⟩ := hrel
        by_cases hk0 : 0 < k
        · have hp : (0 : Int) < (k : Int) := by omega
          go_wp2_with fail
          refine (c_below g _ _ hD (by omega) (by omega)).mono ?_
          rintro e wd ⟨d, rfl, d0, d1, hDq, hgq⟩
          have hsq := hgq.size
          (first | simp only [World.size_setCell] at hsq | simp only [World.size_alloc] at hsq | skip)
          replace hD := hDq
          replace hG := hG.trans hgq
          replace hBz := hBz.grown hgq (fun e => by have h7 := Option.some.inj e; omega)
          replace hFz := hFz.grown hgq (fun e => by have h7 := Option.some.inj e; omega)
          replace hBx := hBx.grown hgq (fun e => by have h7 := Option.some.inj e; omega)
          replace hFx := hFx.grown hgq (fun e => by have h7 := Option.some.inj e; omega)
          replace hOw := hOw.kept hgq (fun k h1 h2 => by have h7 := (hOw.2.2.lt _ h1).1; have h8 := Option.some.inj h2; omega)
          clear hDq hgq
          have hx0 : inI64 (12 - (k : Int)) := by unfold inI64; omega
          have hx1 : inI64 (tt + d) := by unfold inI64; omega
          have hL := ownA_lit dueE wd 0 113 (12 - (k : Int), tt + d) (Nat.zero_le _) ⟨hx0, hx1⟩
          have HL := Lib.hid hL.read
          have HOw := Lib.hid (hOw.below ((Below.refl _ _).alloc (Nat.le_refl _) (.cells ([.int .i64 (12 - (k : Int)), .int .i64 (tt + d)] : List Value).toArray 113)))
          have Hlt := Lib.hid HOw.out.2.2.lt
          clear hL hOw
          have hBd := hBx.1
          have q0 := hBx.2
          have q1 := hFx.2
          go_wp2_with (at_builtin; refine wpList_append_rows (E := dueE) rfl _ _ _ rfl (wt.heap.size + 1) 113 j0 (.agg #[.int .i64 0, .int .i64 0]) 16 Try.underlying97 hj hj0 hj1 hj2 rfl (by omega) due_one _ _ _ _ D [(12 - (k : Int), tt + d)] rfl HOw.out rfl HL.out (by simp only [List.length_cons, List.length_nil]; omega) (by simp only [World.size_alloc]; omega) (fun a5 c5 w5 ho5 hg5 => ?_); clear q0 q1; have hBx5 := (hBx.alloc (.cells ([.int .i64 (12 - (k : Int)), .int .i64 (tt + d)] : List Value).toArray 113)).grown hg5 (fun e => by have h7 := (Hlt.out _ e).1; omega); have hFx5 := (hFx.alloc (.cells ([.int .i64 (12 - (k : Int)), .int .i64 (tt + d)] : List Value).toArray 113)).grown hg5 (fun e => by have h7 := (Hlt.out _ e).1; omega); have q0 := hBx5.2; have q1 := hFx5.2)
          clear q0 q1
          go_roundw
          case rel => exact ⟨k - 1, tt + d, D ++ [(12 - (k : Int), tt + d)], a5, c5, rfl, congrArg (Value.int .i64) (by omega), by simp only [List.length_append, List.length_cons, List.length_nil]; omega, by omega, by simp only [List.length_append, List.length_cons, List.length_nil]; omega, DuesTo.step HDu.out (by omega) (by omega) (by omega), (by rw [List.length_append]; exact hBx5.set 5 (.slice a5 (D.length + 1) c5) (by simp)), hFx5.set _ _, ((hBz.alloc _).grown hg5 (fun e => by have h7 := (Hlt.out _ e).1; omega)).setOther _ _ (by simp; omega), ((hFz.alloc _).grown hg5 (fun e => by have h7 := (Hlt.out _ e).1; omega)).set _ _, ho5.set (by simp), ((hD.alloc _).kept hg5 (fun k hk => by have h7 := (Hlt.out _ hk).1; omega)).set _ _ (by simp; omega), grown_setNew ((grown_allocNew hG _).andThen hg5 (fun j hj => .inl (by have h7 := (Hlt.out _ hj).1; omega))) _ _ (by simp; omega)⟩
          case measure => simp [intOf]; omega
        · obtain rfl : k = 0 := by omega
          have q0 := hBx.2
          have q1 := hBz.2
          have q2 := hFz.2
          go_wp2_with fail
          refine bodyPost_ret (v := .agg #[.int .i64 i, .int .i64 t, .int .i64 ho, .int .i64 el, .int .i64 uu, .slice ao' D.length cap']) (by simp [results, Try.results86, go_sem, *]) rfl ⟨i, t, ho, el, uu, D, ao', cap', rfl, Hj.out D (DuesTo.ok HDu.out (by omega) (by omega) (by omega)), ?_, ?_, ?_⟩
          · refine OwnA.weak (lo := wt.heap.size + 1) (by omega) ?_
            repeat (first | ((with_reducible refine OwnA.set ?_ ?_); (focus (simp; omega))))
            exact hOw
          · repeat (first | with_reducible exact hD | (with_reducible refine Dice.set ?_ _ _ ?_; rotate_left; focus (simp; omega)))
          · repeat (first | with_reducible exact hG | (with_reducible refine grown_setNew ?_ _ _ ?_; rotate_left; focus (simp)))
    · skip
      go_wp2_with fail
      refine (c_below g _ _ hD (by omega) (by omega)).mono ?_
      rintro e wu ⟨u, rfl, u0, u1, hDq, hgq⟩
      have hsq := hgq.size
      (first | simp only [World.size_setCell] at hsq | simp only [World.size_alloc] at hsq | skip)
      replace hD := hDq
      have hS2 := hS.trans hgq
      replace hBz := hBz.grown hgq (fun e => by have h7 := Option.some.inj e; omega)
      replace hFz := hFz.grown hgq (fun e => by have h7 := Option.some.inj e; omega)
      replace hBx := hBx.grown hgq (fun e => by have h7 := Option.some.inj e; omega)
      replace hFx := hFx.grown hgq (fun e => by have h7 := Option.some.inj e; omega)
      clear hDq hgq
      refine hK.out _ _ hS2 ?_
      try simp only [Act.put, List.setIfInBounds_toArray, List.set_cons_zero, List.set_cons_succ]
      clear hK K hS
      clear hS2
      refine restS_alone 1 rfl (by kernel_rfl) (by rfl) (fun hS K hK => ?_)
      have q0 := hBx.2
      go_wp2_with fail
      clear q0
      refine hK.out _ _ hS ?_
      try simp only [Act.put, List.setIfInBounds_toArray, List.set_cons_zero, List.set_cons_succ]
      clear hK K hS
      refine restS_take (v := ?_) 4 rfl (by kernel_rfl) (by kernel_rfl) (by kernel_rfl) (fun _ _ _ h => h) (by rfl) ?_ ?_
      rotate_left
      · intro w9 h9; try dsimp only at h9
        go_split_ands
        go_simp; try with_reducible rfl
      try simp only [Act.put, List.setIfInBounds_toArray, List.set_cons_zero, List.set_cons_succ]
      refine restS_take (v := ?_) 5 rfl (by kernel_rfl) (by kernel_rfl) (by kernel_rfl) (fun _ _ _ h => h) (by rfl) ?_ ?_
      rotate_left
      · intro w9 h9; try dsimp only at h9
        go_split_ands
        go_simp; try with_reducible rfl
      try simp only [Act.put, List.setIfInBounds_toArray, List.set_cons_zero, List.set_cons_succ]
      refine restS_alone 6 rfl (by kernel_rfl) (by rfl) (fun hS K hK => ?_)
      have q0 := hBx.2
      have q1 := hFx.2
      go_wp2_with fail
      clear q0 q1
      replace hBx := hBx.set 4 (.int .i64 (t + u)) (by simp)
      replace hFx := hFx.set ⟨wt.heap.size, 4, none⟩ (.int .i64 (t + u))
      replace hBz := hBz.setOther ⟨wt.heap.size, 4, none⟩ (.int .i64 (t + u)) (by simp; omega)
      replace hFz := hFz.set ⟨wt.heap.size, 4, none⟩ (.int .i64 (t + u))
      replace hD := hD.set ⟨wt.heap.size, 4, none⟩ (.int .i64 (t + u)) (by simp; omega)
      have hS2 := grown_setNew hS ⟨wt.heap.size, 4, none⟩ (.int .i64 (t + u)) (by simp; omega)
      simp only [List.set_cons_succ, List.set_cons_zero] at hBx
      refine hK.out _ _ hS2 ?_
      try simp only [Act.put, List.setIfInBounds_toArray, List.set_cons_zero, List.set_cons_succ]
      clear hK K hS
      clear hS2
      refine restS_done (by kernel_rfl) (fun hS => ?_)
      have hG := hS
      clear hS
      have hw9 : IntKind.i64.wrap (t + u) = t + u := IntWalk.i64_in _ (by omega)
      rw [hw9]
      clear hw9
      go_wp2_with fail
      refine (c_below g _ _ hD (by omega) (by omega)).mono ?_
      rintro e wv ⟨v, rfl, v0, v1, hDq, hgq⟩
      have hsq := hgq.size
      (first | simp only [World.size_setCell] at hsq | simp only [World.size_alloc] at hsq | skip)
      replace hD := hDq
      replace hG := hG.trans hgq
      replace hBz := hBz.grown hgq (fun e => by have h7 := Option.some.inj e; omega)
      replace hFz := hFz.grown hgq (fun e => by have h7 := Option.some.inj e; omega)
      replace hBx := hBx.grown hgq (fun e => by have h7 := Option.some.inj e; omega)
      replace hFx := hFx.grown hgq (fun e => by have h7 := Option.some.inj e; omega)
      clear hDq hgq
      go_wp2_with fail
      refine (c_below g _ _ hD (by omega) (by omega)).mono ?_
      rintro e wn ⟨n, rfl, n0, n1, hDq, hgq⟩
      have hsq := hgq.size
      (first | simp only [World.size_setCell] at hsq | simp only [World.size_alloc] at hsq | skip)
      replace hD := hDq
      replace hG := hG.trans hgq
      replace hBz := hBz.grown hgq (fun e => by have h7 := Option.some.inj e; omega)
      replace hFz := hFz.grown hgq (fun e => by have h7 := Option.some.inj e; omega)
      replace hBx := hBx.grown hgq (fun e => by have h7 := Option.some.inj e; omega)
      replace hFx := hFx.grown hgq (fun e => by have h7 := Option.some.inj e; omega)
      clear hDq hgq
      obtain ⟨ho, el, uu, hBx, Hj⟩ : ∃ ho el uu : Int, Bx wn wt.heap.size [.int .i64 i, .int .i64 t, .int .i64 ho, .int .i64 el, .int .i64 uu, .slice none 0 0] ∧ Hid (∀ D, openOk D = true → jobsOk i t ho el uu D = true) := ⟨_, _, _, hBx, fun D h9 => by simp [jobsOk, inB, h9]; omega⟩
      obtain ⟨m, rfl⟩ : ∃ m : Nat, n = m := ⟨n.toNat, by omega⟩
      have hOw := ownA_nil dueE wn (wt.heap.size + 1) 113
      have HOw := Lib.hid hOw
      clear hOw
      have HG := Lib.hid hG
      clear hG
      have HD := Lib.hid hD
      clear hD
      go_wp2_with fail
      go_loopw [4, 5] (fun v i9 wr => ∃ (k : Nat) (tt : Int) (D : List (Int × Int)) (ao' : Option Addr) (cap' : Nat), v = .int .i64 tt ∧ i9 = .int .i64 k ∧ D.length + k = m ∧ 0 ≤ tt ∧ tt ≤ 8 + 4 * (D.length : Int) ∧ Hid (DuesTo m D tt) ∧ Bx wr wt.heap.size [.int .i64 i, .int .i64 t, .int .i64 ho, .int .i64 el, .int .i64 uu, .slice ao' D.length cap'] ∧ Fx wr wt.heap.size ∧ Bx wr w.heap.size [.int .i64 0, .int .i64 0, .int .i64 0, .int .i64 0, .int .i64 0, .slice none 0 0] ∧ Fx wr w.heap.size ∧ OwnA dueE wr (wt.heap.size + 1) 113 (.slice ao' D.length cap') D ∧ Dice wr g ∧ w.grownBy wr (some g))
        (fun _ i9 _ => (intOf i9).toNat)
      case atStart => exact ⟨m, v, [], none, 0, rfl, rfl, by simp, v0, by simp; omega, DuesTo.zero _ _, hBx, hFx, hBz, hFz, HOw.out, HD.out, HG.out⟩
      case round =>
        clear hBx hFx hBz hFz HG HD HOw
        obtain ⟨k, tt, D, ao', cap', rfl, rfl, hDk, ht0, ht1, HDu, hBx, hFx, hBz, hFz, hOw, hD, hG⟩ := hrel
        by_cases hk0 : 0 < k
        · have hp : (0 : Int) < (k : Int) := by omega
          go_wp2_with fail
          refine (c_below g _ _ hD (by omega) (by omega)).mono ?_
          rintro e wd ⟨d, rfl, d0, d1, hDq, hgq⟩
          have hsq := hgq.size
          (first | simp only [World.size_setCell] at hsq | simp only [World.size_alloc] at hsq | skip)
          replace hD := hDq
          replace hG := hG.trans hgq
          replace hBz := hBz.grown hgq (fun e => by have h7 := Option.some.inj e; omega)
          replace hFz := hFz.grown hgq (fun e => by have h7 := Option.some.inj e; omega)
          replace hBx := hBx.grown hgq (fun e => by have h7 := Option.some.inj e; omega)
          replace hFx := hFx.grown hgq (fun e => by have h7 := Option.some.inj e; omega)
          replace hOw := hOw.kept hgq (fun k h1 h2 => by have h7 := (hOw.2.2.lt _ h1).1; have h8 := Option.some.inj h2; omega)
          clear hDq hgq
          have hx0 : inI64 (12 - (k : Int)) := by unfold inI64; omega
          have hx1 : inI64 (tt + d) := by unfold inI64; omega
          have hL := ownA_lit dueE wd 0 113 (12 - (k : Int), tt + d) (Nat.zero_le _) ⟨hx0, hx1⟩
          have HL := Lib.hid hL.read
          have HOw := Lib.hid (hOw.below ((Below.refl _ _).alloc (Nat.le_refl _) (.cells ([.int .i64 (12 - (k : Int)), .int .i64 (tt + d)] : List Value).toArray 113)))
          have Hlt := Lib.hid HOw.out.2.2.lt
          clear hL hOw
          have hBd := hBx.1
          have q0 := hBx.2
          have q1 := hFx.2
          go_wp2_with (at_builtin; refine wpList_append_rows (E := dueE) rfl _ _ _ rfl (wt.heap.size + 1) 113 j0 (.agg #[.int .i64 0, .int .i64 0]) 16 Try.underlying97 hj hj0 hj1 hj2 rfl (by omega) due_one _ _ _ _ D [(12 - (k : Int), tt + d)] rfl HOw.out rfl HL.out (by simp only [List.length_cons, List.length_nil]; omega) (by simp only [World.size_alloc]; omega) (fun a5 c5 w5 ho5 hg5 => ?_); clear q0 q1; have hBx5 := (hBx.alloc (.cells ([.int .i64 (12 - (k : Int)), .int .i64 (tt + d)] : List Value).toArray 113)).grown hg5 (fun e => by have h7 := (Hlt.out _ e).1; omega); have hFx5 := (hFx.alloc (.cells ([.int .i64 (12 - (k : Int)), .int .i64 (tt + d)] : List Value).toArray 113)).grown hg5 (fun e => by have h7 := (Hlt.out _ e).1; omega); have q0 := hBx5.2; have q1 := hFx5.2)
          clear q0 q1
          go_roundw
          case rel => exact ⟨k - 1, tt + d, D ++ [(12 - (k : Int), tt + d)], a5, c5, rfl, congrArg (Value.int .i64) (by omega), by simp only [List.length_append, List.length_cons, List.length_nil]; omega, by omega, by simp only [List.length_append, List.length_cons, List.length_nil]; omega, DuesTo.step HDu.out (by omega) (by omega) (by omega), (by rw [List.length_append]; exact hBx5.set 5 (.slice a5 (D.length + 1) c5) (by simp)), hFx5.set _ _, ((hBz.alloc _).grown hg5 (fun e => by have h7 := (Hlt.out _ e).1; omega)).setOther _ _ (by simp; omega), ((hFz.alloc _).grown hg5 (fun e => by have h7 := (Hlt.out _ e).1; omega)).set _ _, ho5.set (by simp), ((hD.alloc _).kept hg5 (fun k hk => by have h7 := (Hlt.out _ hk).1; omega)).set _ _ (by simp; omega), grown_setNew ((grown_allocNew hG _).andThen hg5 (fun j hj => .inl (by have h7 := (Hlt.out _ hj).1; omega))) _ _ (by simp; omega)⟩
          case measure => simp [intOf]; omega
        · obtain rfl : k = 0 := by omega
          have q0 := hBx.2
          have q1 := hBz.2
          have q2 := hFz.2
          go_wp2_with fail
          refine bodyPost_ret (v := .agg #[.int .i64 i, .int .i64 t, .int .i64 ho, .int .i64 el, .int .i64 uu, .slice ao' D.length cap']) (by simp [results, Try.results86, go_sem, *]) rfl ⟨i, t, ho, el, uu, D, ao', cap', rfl, Hj.out D (DuesTo.ok HDu.out (by omega) (by omega) (by omega)), ?_, ?_, ?_⟩
          · refine OwnA.weak (lo := wt.heap.size + 1) (by omega) ?_
            repeat (first | ((with_reducible refine OwnA.set ?_ ?_); (focus (simp; omega))))
            exact hOw
          · repeat (first | with_reducible exact hD | (with_reducible refine Dice.set ?_ _ _ ?_; rotate_left; focus (simp; omega)))
          · repeat (first | with_reducible exact hG | (with_reducible refine grown_setNew ?_ _ _ ?_; rotate_left; focus (simp)))
  · have e1 : decide (0 < h) = false := by simpa using e0
    obtain rfl : h = 0 := by omega
    go_wp2_with fail
    refine (c_below g _ _ hD (by omega) (by omega)).mono ?_
    rintro e wv ⟨v, rfl, v0, v1, hDq, hgq⟩
    have hsq := hgq.size
    (first | simp only [World.size_setCell] at hsq | simp only [World.size_alloc] at hsq | skip)
    replace hD := hDq
    replace hG := hG.trans hgq
    replace hBz := hBz.grown hgq (fun e => by have h7 := Option.some.inj e; omega)
    replace hFz := hFz.grown hgq (fun e => by have h7 := Option.some.inj e; omega)
    replace hBx := hBx.grown hgq (fun e => by have h7 := Option.some.inj e; omega)
    replace hFx := hFx.grown hgq (fun e => by have h7 := Option.some.inj e; omega)
    clear hDq hgq
    go_wp2_with fail
    refine (c_below g _ _ hD (by omega) (by omega)).mono ?_
    rintro e wn ⟨n, rfl, n0, n1, hDq, hgq⟩
    have hsq := hgq.size
    (first | simp only [World.size_setCell] at hsq | simp only [World.size_alloc] at hsq | skip)
    replace hD := hDq
    replace hG := hG.trans hgq
    replace hBz := hBz.grown hgq (fun e => by have h7 := Option.some.inj e; omega)
    replace hFz := hFz.grown hgq (fun e => by have h7 := Option.some.inj e; omega)
    replace hBx := hBx.grown hgq (fun e => by have h7 := Option.some.inj e; omega)
    replace hFx := hFx.grown hgq (fun e => by have h7 := Option.some.inj e; omega)
    clear hDq hgq
    obtain ⟨ho, el, uu, hBx, Hj⟩ : ∃ ho el uu : Int, Bx wn wt.heap.size [.int .i64 i, .int .i64 t, .int .i64 ho, .int .i64 el, .int .i64 uu, .slice none 0 0] ∧ Hid (∀ D, openOk D = true → jobsOk i t ho el uu D = true) := ⟨_, _, _, hBx, fun D h9 => by simp [jobsOk, inB, h9]; omega⟩
    obtain ⟨m, rfl⟩ : ∃ m : Nat, n = m := ⟨n.toNat, by omega⟩
    have hOw := ownA_nil dueE wn (wt.heap.size + 1) 113
    have HOw := Lib.hid hOw
    clear hOw
    have HG := Lib.hid hG
    clear hG
    have HD := Lib.hid hD
    clear hD
    go_wp2_with fail
    go_loopw [4, 5] (fun v i9 wr => ∃ (k : Nat) (tt : Int) (D : List (Int × Int)) (ao' : Option Addr) (cap' : Nat), v = .int .i64 tt ∧ i9 = .int .i64 k ∧ D.length + k = m ∧ 0 ≤ tt ∧ tt ≤ 8 + 4 * (D.length : Int) ∧ Hid (DuesTo m D tt) ∧ Bx wr wt.heap.size [.int .i64 i, .int .i64 t, .int .i64 ho, .int .i64 el, .int .i64 uu, .slice ao' D.length cap'] ∧ Fx wr wt.heap.size ∧ Bx wr w.heap.size [.int .i64 0, .int .i64 0, .int .i64 0, .int .i64 0, .int .i64 0, .slice none 0 0] ∧ Fx wr w.heap.size ∧ OwnA dueE wr (wt.heap.size + 1) 113 (.slice ao' D.length cap') D ∧ Dice wr g ∧ w.grownBy wr (some g))
      (fun _ i9 _ => (intOf i9).toNat)
    case atStart => exact ⟨m, v, [], none, 0, rfl, rfl, by simp, v0, by simp; omega, DuesTo.zero _ _, hBx, hFx, hBz, hFz, HOw.out, HD.out, HG.out⟩
    case round =>
      clear hBx hFx hBz hFz HG HD HOw
      obtain ⟨k, tt, D, ao', cap', rfl, rfl, hDk, ht0, ht1, HDu, hBx, hFx, hBz, hFz, hOw, hD, hG⟩ := hrel
      by_cases hk0 : 0 < k
      · have hp : (0 : Int) < (k : Int) := by omega
        go_wp2_with fail
        refine (c_below g _ _ hD (by omega) (by omega)).mono ?_
        rintro e wd ⟨d, rfl, d0, d1, hDq, hgq⟩
        have hsq := hgq.size
        (first | simp only [World.size_setCell] at hsq | simp only [World.size_alloc] at hsq | skip)
        replace hD := hDq
        replace hG := hG.trans hgq
        replace hBz := hBz.grown hgq (fun e => by have h7 := Option.some.inj e; omega)
        replace hFz := hFz.grown hgq (fun e => by have h7 := Option.some.inj e; omega)
        replace hBx := hBx.grown hgq (fun e => by have h7 := Option.some.inj e; omega)
        replace hFx := hFx.grown hgq (fun e => by have h7 := Option.some.inj e; omega)
        replace hOw := hOw.kept hgq (fun k h1 h2 => by have h7 := (hOw.2.2.lt _ h1).1; have h8 := Option.some.inj h2; omega)
        clear hDq hgq
        have hx0 : inI64 (12 - (k : Int)) := by unfold inI64; omega
        have hx1 : inI64 (tt + d) := by unfold inI64; omega
        have hL := ownA_lit dueE wd 0 113 (12 - (k : Int), tt + d) (Nat.zero_le _) ⟨hx0, hx1⟩
        have HL := Lib.hid hL.read
        have HOw := Lib.hid (hOw.below ((Below.refl _ _).alloc (Nat.le_refl _) (.cells ([.int .i64 (12 - (k : Int)), .int .i64 (tt + d)] : List Value).toArray 113)))
        have Hlt := Lib.hid HOw.out.2.2.lt
        clear hL hOw
        have hBd := hBx.1
        have q0 := hBx.2
        have q1 := hFx.2
        go_wp2_with (at_builtin; refine wpList_append_rows (E := dueE) rfl _ _ _ rfl (wt.heap.size + 1) 113 j0 (.agg #[.int .i64 0, .int .i64 0]) 16 Try.underlying97 hj hj0 hj1 hj2 rfl (by omega) due_one _ _ _ _ D [(12 - (k : Int), tt + d)] rfl HOw.out rfl HL.out (by simp only [List.length_cons, List.length_nil]; omega) (by simp only [World.size_alloc]; omega) (fun a5 c5 w5 ho5 hg5 => ?_); clear q0 q1; have hBx5 := (hBx.alloc (.cells ([.int .i64 (12 - (k : Int)), .int .i64 (tt + d)] : List Value).toArray 113)).grown hg5 (fun e => by have h7 := (Hlt.out _ e).1; omega); have hFx5 := (hFx.alloc (.cells ([.int .i64 (12 - (k : Int)), .int .i64 (tt + d)] : List Value).toArray 113)).grown hg5 (fun e => by have h7 := (Hlt.out _ e).1; omega); have q0 := hBx5.2; have q1 := hFx5.2)
        clear q0 q1
        go_roundw
        case rel => exact ⟨k - 1, tt + d, D ++ [(12 - (k : Int), tt + d)], a5, c5, rfl, congrArg (Value.int .i64) (by omega), by simp only [List.length_append, List.length_cons, List.length_nil]; omega, by omega, by simp only [List.length_append, List.length_cons, List.length_nil]; omega, DuesTo.step HDu.out (by omega) (by omega) (by omega), (by rw [List.length_append]; exact hBx5.set 5 (.slice a5 (D.length + 1) c5) (by simp)), hFx5.set _ _, ((hBz.alloc _).grown hg5 (fun e => by have h7 := (Hlt.out _ e).1; omega)).setOther _ _ (by simp; omega), ((hFz.alloc _).grown hg5 (fun e => by have h7 := (Hlt.out _ e).1; omega)).set _ _, ho5.set (by simp), ((hD.alloc _).kept hg5 (fun k hk => by have h7 := (Hlt.out _ hk).1; omega)).set _ _ (by simp; omega), grown_setNew ((grown_allocNew hG _).andThen hg5 (fun j hj => .inl (by have h7 := (Hlt.out _ hj).1; omega))) _ _ (by simp; omega)⟩
        case measure => simp [intOf]; omega
      · obtain rfl : k = 0 := by omega
        have q0 := hBx.2
        have q1 := hBz.2
        have q2 := hFz.2
        go_wp2_with fail
        refine bodyPost_ret (v := .agg #[.int .i64 i, .int .i64 t, .int .i64 ho, .int .i64 el, .int .i64 uu, .slice ao' D.length cap']) (by simp [results, Try.results86, go_sem, *]) rfl ⟨i, t, ho, el, uu, D, ao', cap', rfl, Hj.out D (DuesTo.ok HDu.out (by omega) (by omega) (by omega)), ?_, ?_, ?_⟩
        · refine OwnA.weak (lo := wt.heap.size + 1) (by omega) ?_
          repeat (first | ((with_reducible refine OwnA.set ?_ ?_); (focus (simp; omega))))
          exact hOw
        · repeat (first | with_reducible exact hD | (with_reducible refine Dice.set ?_ _ _ ?_; rotate_left; focus (simp; omega)))
        · repeat (first | with_reducible exact hG | (with_reducible refine grown_setNew ?_ _ _ ?_; rotate_left; focus (simp)))

end Go.Proofs.Ytpfkfppooeikeaa
