/- Walks of functions of the program, printed by a program of the prover. -/
import Derived.Test.YtpfkfppooeikeaaRoll
import Derived.Test.YtpfkfppooeikeaaLeaf
import Derived.WalkKit
import Derived.WalkSpells
import Derived.Deep.QuietTactic
import Derived.BigQuiet
import Derived.Deep.Light
import Derived.Lib.Hide
import Derived.Deep.RegionHeld3
namespace Go.Proofs.Ytpfkfppooeikeaa
open Go.ChangeShapes Go.WideShapes Go.ChangeAt Go.RowKit Go.Deep
set_option maxHeartbeats 1600000
set_option maxRecDepth 100000

def RetOp (w : World) (g : Nat) (e : Ending) (w' : World) : Prop :=
  ∃ k a b x y : Int, e = .returned (.agg #[.int .i64 k, .int .i64 a, .int .i64 b, .int .i64 x, .int .i64 y]) ∧ opOk k a b x y = true ∧ Dice w' g ∧ w.grownBy w' (some g)
theorem c_w9Op (g : Nat) (w : World) (hD : Dice w g) : Calls Try.prog 139 #[.pointer (some ⟨g, 0, none⟩)] w (RetOp w g) := by
  have hlt := hD.lt
  have hBx := Bx.new w [.int .i64 0, .int .i64 0, .int .i64 0, .int .i64 0, .int .i64 0] 68
  have hFx := Fx.new w [.int .i64 0, .int .i64 0, .int .i64 0, .int .i64 0, .int .i64 0] 68
  have hG := World.grownBy_alloc w (.cells ([.int .i64 0, .int .i64 0, .int .i64 0, .int .i64 0, .int .i64 0] : List Value).toArray 68) (some g)
  replace hD := hD.alloc (.cells ([.int .i64 0, .int .i64 0, .int .i64 0, .int .i64 0, .int .i64 0] : List Value).toArray 68)
  go_enter Try.func139, Try.ntmps139
  go_wp2_with fail
  refine (c_below g _ _ hD (by omega) (by omega)).mono ?_
  rintro e wd ⟨d, rfl, d0, d1, hDq, hgq⟩
  replace hD := hDq
  replace hBx := hBx.grown hgq (fun e => by have h7 := Option.some.inj e; omega)
  replace hFx := hFx.grown hgq (fun e => by have h7 := Option.some.inj e; omega)
  replace hG := hG.trans hgq
  clear hDq hgq
  by_cases e0 : d = 0
  · subst e0
    go_wp2_with fail
    refine (c_below g _ _ hD (by omega) (by omega)).mono ?_
    rintro e wa ⟨a, rfl, a0, a1, hDq, hgq⟩
    replace hD := hDq
    replace hBx := hBx.grown hgq (fun e => by have h7 := Option.some.inj e; omega)
    replace hFx := hFx.grown hgq (fun e => by have h7 := Option.some.inj e; omega)
    replace hG := hG.trans hgq
    clear hDq hgq
    have q0 := hBx.2
    have q1 := hFx.2
    go_wp2_with fail
    refine bodyPost_ret (v := .agg #[.int .i64 2, .int .i64 a, .int .i64 0, .int .i64 0, .int .i64 0]) (by simp [results, Try.results139, go_sem, *]) rfl ⟨2, a, 0, 0, 0, rfl, ?_, ?_, ?_⟩
    · simp [opOk, inB]; omega
    · repeat (first | with_reducible exact hD | (with_reducible refine Dice.set ?_ _ _ ?_; rotate_left; focus (simp; omega)))
    · repeat (first | with_reducible exact hG | (with_reducible refine grown_setNew ?_ _ _ ?_; rotate_left; focus (simp)))
  have f0 : (d == 0) = false := by simpa using e0
  by_cases e1 : d = 1
  · subst e1
    go_wp2_with fail
    refine (c_below g _ _ hD (by omega) (by omega)).mono ?_
    rintro e wa ⟨a, rfl, a0, a1, hDq, hgq⟩
    replace hD := hDq
    replace hBx := hBx.grown hgq (fun e => by have h7 := Option.some.inj e; omega)
    replace hFx := hFx.grown hgq (fun e => by have h7 := Option.some.inj e; omega)
    replace hG := hG.trans hgq
    clear hDq hgq
    go_wp2_with fail
    refine (c_below g _ _ hD (by omega) (by omega)).mono ?_
    rintro e wb ⟨b, rfl, b0, b1, hDq, hgq⟩
    replace hD := hDq
    replace hBx := hBx.grown hgq (fun e => by have h7 := Option.some.inj e; omega)
    replace hFx := hFx.grown hgq (fun e => by have h7 := Option.some.inj e; omega)
    replace hG := hG.trans hgq
    clear hDq hgq
    go_wp2_with fail
    refine (c_below g _ _ hD (by omega) (by omega)).mono ?_
    rintro e wc ⟨c, rfl, c0, c1, hDq, hgq⟩
    replace hD := hDq
    replace hBx := hBx.grown hgq (fun e => by have h7 := Option.some.inj e; omega)
    replace hFx := hFx.grown hgq (fun e => by have h7 := Option.some.inj e; omega)
    replace hG := hG.trans hgq
    clear hDq hgq
    go_wp2_with fail
    refine (c_below g _ _ hD (by omega) (by omega)).mono ?_
    rintro e wx ⟨x, rfl, x0, x1, hDq, hgq⟩
    replace hD := hDq
    replace hBx := hBx.grown hgq (fun e => by have h7 := Option.some.inj e; omega)
    replace hFx := hFx.grown hgq (fun e => by have h7 := Option.some.inj e; omega)
    replace hG := hG.trans hgq
    clear hDq hgq
    have q0 := hBx.2
    have q1 := hFx.2
    go_wp2_with fail
    refine bodyPost_ret (v := .agg #[.int .i64 3, .int .i64 (1 + a), .int .i64 b, .int .i64 c, .int .i64 x]) (by simp [results, Try.results139, go_sem, *]) rfl ⟨3, 1 + a, b, c, x, rfl, ?_, ?_, ?_⟩
    · simp [opOk, inB]; omega
    · repeat (first | with_reducible exact hD | (with_reducible refine Dice.set ?_ _ _ ?_; rotate_left; focus (simp; omega)))
    · repeat (first | with_reducible exact hG | (with_reducible refine grown_setNew ?_ _ _ ?_; rotate_left; focus (simp)))
  have f1 : (d == 1) = false := by simpa using e1
  by_cases e2 : d = 2
  · subst e2
    go_wp2_with fail
    refine (c_below g _ _ hD (by omega) (by omega)).mono ?_
    rintro e wa ⟨a, rfl, a0, a1, hDq, hgq⟩
    replace hD := hDq
    replace hBx := hBx.grown hgq (fun e => by have h7 := Option.some.inj e; omega)
    replace hFx := hFx.grown hgq (fun e => by have h7 := Option.some.inj e; omega)
    replace hG := hG.trans hgq
    clear hDq hgq
    go_wp2_with fail
    refine (c_below g _ _ hD (by omega) (by omega)).mono ?_
    rintro e wb ⟨b, rfl, b0, b1, hDq, hgq⟩
    replace hD := hDq
    replace hBx := hBx.grown hgq (fun e => by have h7 := Option.some.inj e; omega)
    replace hFx := hFx.grown hgq (fun e => by have h7 := Option.some.inj e; omega)
    replace hG := hG.trans hgq
    clear hDq hgq
    have q0 := hBx.2
    have q1 := hFx.2
    go_wp2_with fail
    refine bodyPost_ret (v := .agg #[.int .i64 4, .int .i64 (1 + a), .int .i64 b, .int .i64 0, .int .i64 0]) (by simp [results, Try.results139, go_sem, *]) rfl ⟨4, 1 + a, b, 0, 0, rfl, ?_, ?_, ?_⟩
    · simp [opOk, inB]; omega
    · repeat (first | with_reducible exact hD | (with_reducible refine Dice.set ?_ _ _ ?_; rotate_left; focus (simp; omega)))
    · repeat (first | with_reducible exact hG | (with_reducible refine grown_setNew ?_ _ _ ?_; rotate_left; focus (simp)))
  have f2 : (d == 2) = false := by simpa using e2
  by_cases e3 : d = 3
  · subst e3
    go_wp2_with fail
    refine (c_below g _ _ hD (by omega) (by omega)).mono ?_
    rintro e wa ⟨a, rfl, a0, a1, hDq, hgq⟩
    replace hD := hDq
    replace hBx := hBx.grown hgq (fun e => by have h7 := Option.some.inj e; omega)
    replace hFx := hFx.grown hgq (fun e => by have h7 := Option.some.inj e; omega)
    replace hG := hG.trans hgq
    clear hDq hgq
    have q0 := hBx.2
    have q1 := hFx.2
    go_wp2_with fail
    refine bodyPost_ret (v := .agg #[.int .i64 5, .int .i64 (1 + a), .int .i64 0, .int .i64 0, .int .i64 0]) (by simp [results, Try.results139, go_sem, *]) rfl ⟨5, 1 + a, 0, 0, 0, rfl, ?_, ?_, ?_⟩
    · simp [opOk, inB]; omega
    · repeat (first | with_reducible exact hD | (with_reducible refine Dice.set ?_ _ _ ?_; rotate_left; focus (simp; omega)))
    · repeat (first | with_reducible exact hG | (with_reducible refine grown_setNew ?_ _ _ ?_; rotate_left; focus (simp)))
  have f3 : (d == 3) = false := by simpa using e3
  go_wp2_with fail
  refine (c_below g _ _ hD (by omega) (by omega)).mono ?_
  rintro e wa ⟨a, rfl, a0, a1, hDq, hgq⟩
  replace hD := hDq
  replace hBx := hBx.grown hgq (fun e => by have h7 := Option.some.inj e; omega)
  replace hFx := hFx.grown hgq (fun e => by have h7 := Option.some.inj e; omega)
  replace hG := hG.trans hgq
  clear hDq hgq
  go_wp2_with fail
  refine (c_below g _ _ hD (by omega) (by omega)).mono ?_
  rintro e wb ⟨b, rfl, b0, b1, hDq, hgq⟩
  replace hD := hDq
  replace hBx := hBx.grown hgq (fun e => by have h7 := Option.some.inj e; omega)
  replace hFx := hFx.grown hgq (fun e => by have h7 := Option.some.inj e; omega)
  replace hG := hG.trans hgq
  clear hDq hgq
  have q0 := hBx.2
  have q1 := hFx.2
  go_wp2_with fail
  refine bodyPost_ret (v := .agg #[.int .i64 1, .int .i64 a, .int .i64 b, .int .i64 0, .int .i64 0]) (by simp [results, Try.results139, go_sem, *]) rfl ⟨1, a, b, 0, 0, rfl, ?_, ?_, ?_⟩
  · simp [opOk, inB]; omega
  · repeat (first | with_reducible exact hD | (with_reducible refine Dice.set ?_ _ _ ?_; rotate_left; focus (simp; omega)))
  · repeat (first | with_reducible exact hG | (with_reducible refine grown_setNew ?_ _ _ ?_; rotate_left; focus (simp)))

end Go.Proofs.Ytpfkfppooeikeaa
