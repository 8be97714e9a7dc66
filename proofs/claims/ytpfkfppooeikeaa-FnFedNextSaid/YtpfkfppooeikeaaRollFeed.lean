/- Walks of functions of the program, printed by a program of the prover. -/
import Derived.Test.YtpfkfppooeikeaaRollList
import Derived.Test.YtpfkfppooeikeaaRowsCut
import Derived.Test.YtpfkfppooeikeaaFeedA
import Derived.WalkKit
import Derived.WalkSpells
import Derived.Deep.QuietTactic
import Derived.BigQuiet
import Derived.Deep.Light
import Derived.Lib.Hide
import Derived.Deep.RegionHeld3
namespace Go.Proofs.Ytpfkfppooeikeaa
open Go.ChangeShapes Go.WideShapes Go.ChangeAt Go.RowKit Go.Deep
set_option maxHeartbeats 1600000
set_option maxRecDepth 100000

theorem ListTo.feed {D : List (Int × Int × Int × Int × Int × Int × Int × Int × Int)} {t : Int} (h : ListTo D t) (hl : D.length = 8) {m k : Nat} (hmk : m ≤ k) (hk : k ≤ 8) (hk3 : k - m ≤ 3) {bs la : Int} (b0 : 0 ≤ bs) (b1 : bs ≤ m) (l0 : (k : Int) ≤ la) (l1 : la ≤ 2000) :
    feedOk bs la ((D.drop m).take (k - m)) = true := by
  have hat0 : ∀ j, (hj : j < k - m) → ((D.drop m).take (k - m))[j]? = some (D[m + j]'(by omega)) := fun j hj => by
    rw [List.getElem?_take, if_pos hj, List.getElem?_drop, List.getElem?_eq_getElem]
  have hS : ((D.drop m).take (k - m)).length = k - m := by simp; omega
  generalize ((D.drop m).take (k - m)) = S at hS hat0
  have hat : ∀ i, (hi : i < S.length) → S[i] = D[m + i]'(by omega) := fun i hi => by
    have h7 := hat0 i (by omega)
    rw [List.getElem?_eq_getElem hi] at h7
    exact Option.some.inj h7
  simp only [feedOk, Bool.and_eq_true, decide_eq_true_eq, List.all_eq_true]
  refine ⟨by simp [inB]; omega, l1, by omega, entsOk_good (by omega) fun i hi => ?_, fun e he => ?_⟩
  · have h1 := h (m + i) (by omega)
    rw [entAt_eq hi, hat i hi]
    cases i with
    | zero => rw [entOk1_zero]; exact h1.2.1
    | succ j =>
      rw [entOk1_succ (by omega : j < S.length), hat j (by omega)]
      have h2 := h (m + j) (by omega)
      have h3 := h1.2.2.2 (m + j) (by omega)
      simp only [Bool.and_eq_true, decide_eq_true_eq, beq_iff_eq]
      exact ⟨h1.2.1, by have := h1.1; have := h2.1; omega, h3⟩
  · obtain ⟨i, hi, rfl⟩ := List.getElem_of_mem he
    have h1 := (h (m + i) (by omega)).1
    rw [hat i hi]
    simp only [feedIn, Bool.and_eq_true, decide_eq_true_eq]
    omega
def RetFeed9 (w : World) (g : Nat) (e : Ending) (w' : World) : Prop :=
  ∃ (bs la : Int) (D : List (Int × Int × Int × Int × Int × Int × Int × Int × Int)) (ao : Option Addr) (cap : Nat), e = .returned (.agg #[.int .i64 bs, .int .i64 la, .slice ao D.length cap]) ∧ feedOk bs la D = true ∧ D.length ≤ cap ∧ ReadA entryE w' ao D ∧ Dice w' g ∧ w.grownBy w' (some g)
theorem c_w9Feed (g : Nat) (w : World) (hD : Dice w g) : Calls Try.prog 57 #[.pointer (some ⟨g, 0, none⟩)] w (RetFeed9 w g) := by
  obtain ⟨j0, hj, hj0, hj1, hj2⟩ := info_parts info_Entry
  have hlt := hD.lt
  have hBz := (Bx.new w [.int .i64 0, .int .i64 0, .slice none 0 0] 44).alloc (.cells #[] 70)
  have hFz := (Fx.new w [.int .i64 0, .int .i64 0, .slice none 0 0] 44).alloc (.cells #[] 70)
  have hG := grown_allocNew (World.grownBy_alloc w (.cells ([.int .i64 0, .int .i64 0, .slice none 0 0] : List Value).toArray 44) (some g)) (.cells #[] 70)
  replace hD := (hD.alloc (.cells ([.int .i64 0, .int .i64 0, .slice none 0 0] : List Value).toArray 44)).alloc (.cells #[] 70)
  go_enter Try.func57, Try.ntmps57
  go_wp2_with fail
  refine (c_w9List g 8 _ _ _ hD (by omega)).mono ?_
  rintro e wl ⟨D, tt, ao, cap, rfl, hDl, HLi, hOw, hDq, hgq⟩
  replace hD := hDq
  replace hBz := hBz.grown hgq (fun e => by have h7 := Option.some.inj e; omega)
  replace hFz := hFz.grown hgq (fun e => by have h7 := Option.some.inj e; omega)
  replace hG := hG.trans hgq
  clear hDq hgq
  have hcap : D.length ≤ cap := by
    rcases hOw.2.2.2 with ⟨h7, _⟩ | ⟨g9, cap9, cur, h7, _, _, hnc, _⟩
    · have h8 := (Value.slice.inj h7).2.1; omega
    · have h8 := (Value.slice.inj h7).2.2; omega
  have Hcap := Lib.hid hcap
  have HDl := Lib.hid hDl
  have HLi := Lib.hid HLi
  clear hcap hDl
  go_wp2_with fail
  refine (c_below g _ _ hD (by omega) (by omega)).mono ?_
  rintro e wm ⟨m, rfl, m0, m1, hDq, hgq⟩
  have hsq := hgq.size
  (first | simp only [World.size_setCell] at hsq | simp only [World.size_alloc] at hsq | skip)
  replace hD := hDq
  replace hG := hG.trans hgq
  replace hBz := hBz.grown hgq (fun e => by have h7 := Option.some.inj e; omega)
  replace hFz := hFz.grown hgq (fun e => by have h7 := Option.some.inj e; omega)
  replace hOw := hOw.kept hgq (fun k h1 h2 => by have h7 := (hOw.2.2.lt _ h1).1; have h8 := Option.some.inj h2; simp only [World.size_alloc] at h7; omega)
  clear hDq hgq
  obtain ⟨q, rfl⟩ : ∃ q : Nat, m = (q : Int) := ⟨m.toNat, by omega⟩
  go_wp2_with fail
  refine (c_below g _ _ hD (by omega) (by omega)).mono ?_
  rintro e wc ⟨c, rfl, c0, c1, hDq, hgq⟩
  have hsq := hgq.size
  (first | simp only [World.size_setCell] at hsq | simp only [World.size_alloc] at hsq | skip)
  replace hD := hDq
  replace hG := hG.trans hgq
  replace hBz := hBz.grown hgq (fun e => by have h7 := Option.some.inj e; omega)
  replace hFz := hFz.grown hgq (fun e => by have h7 := Option.some.inj e; omega)
  replace hOw := hOw.kept hgq (fun k h1 h2 => by have h7 := (hOw.2.2.lt _ h1).1; have h8 := Option.some.inj h2; simp only [World.size_alloc] at h7; omega)
  clear hDq hgq
  obtain ⟨r, hr⟩ : ∃ r : Nat, (q : Int) + c = (r : Int) := ⟨((q : Int) + c).toNat, by omega⟩
  have hqr : q ≤ r := by omega
  have hr8 : r ≤ 8 := by omega
  have hr3 : r - q ≤ 3 := by omega
  have hsl : ∀ W, (Instr.slice 42 (.slice ao D.length cap) (some (.int .i64 (q : Int))) (some (.int .i64 (r : Int))) none).run Try.prog W = .ok (.slice (cutAo ao cap q 9) (r - q) (cap - q)) W := fun W => run_cut_rows (P := Try.prog) (t := 42) Try.underlying42 hj 9 hj1 ao D.length cap q r hqr (by rw [HDl.out]; exact hr8) Hcap.out W
  have hw1 : IntKind.i64.wrap ((q : Int) + 1) = (q : Int) + 1 := IntWalk.i64_in _ (by omega)
  go_wp2_with fail
  replace hG := hG.andThen (grown_of_below (Below.refl _ _).drew) (fun j hj => by cases hj)
  refine restS_begin (fun W => w.grownBy W (some g)) (by kernel_rfl) hG ?_
  clear hG
  replace hBz := hBz.drew
  replace hFz := hFz.drew
  replace hD := hD.below (Below.refl _ _).drew
  replace hOw := hOw.below (Below.refl _ _).drew
  refine restS_take (v := ?_) 0 rfl (by kernel_rfl) (by kernel_rfl) (by kernel_rfl) (fun _ _ _ h => h) (by rfl) ?_ ?_
  rotate_left
  · intro w9 h9; try dsimp only at h9
    go_split_ands
    go_simp; try with_reducible rfl
  try simp only [Act.put, List.setIfInBounds_toArray, List.set_cons_zero, List.set_cons_succ]
  refine restS_take (v := ?_) 1 rfl (by kernel_rfl) (by kernel_rfl) (by kernel_rfl) (fun _ _ _ h => h) (by rfl) ?_ ?_
  rotate_left
  · intro w9 h9; try dsimp only at h9
    go_split_ands
    go_simp; try with_reducible rfl
  try simp only [Act.put, List.setIfInBounds_toArray, List.set_cons_zero, List.set_cons_succ]
  refine restS_take (v := ?_) 2 rfl (by kernel_rfl) (by kernel_rfl) (by kernel_rfl) (fun _ _ _ h => h) (by rfl) ?_ ?_
  rotate_left
  · intro w9 h9; try dsimp only at h9
    go_split_ands
    go_simp; try with_reducible rfl
  try simp only [Act.put, List.setIfInBounds_toArray, List.set_cons_zero, List.set_cons_succ]
  refine restS_take (v := ?_) 4 rfl (by kernel_rfl) (by kernel_rfl) (by kernel_rfl) (fun _ _ _ h => h) (by rfl) ?_ ?_
  rotate_left
  · intro w9 h9; try dsimp only at h9
    go_split_ands
    go_simp; try with_reducible rfl
  try simp only [Act.put, List.setIfInBounds_toArray, List.set_cons_zero, List.set_cons_succ]
  refine restS_take (v := ?_) 5 rfl (by kernel_rfl) (by kernel_rfl) (by kernel_rfl) (fun _ _ _ h => h) (by rfl) ?_ ?_
  rotate_left
  · intro w9 h9; try dsimp only at h9
    go_split_ands
    go_simp; try with_reducible rfl
  try simp only [Act.put, List.setIfInBounds_toArray, List.set_cons_zero, List.set_cons_succ]
  refine restS_take (v := ?_) 8 rfl (by kernel_rfl) (by kernel_rfl) (by kernel_rfl) (fun _ _ _ h => h) (by rfl) ?_ ?_
  rotate_left
  · intro w9 h9; try dsimp only at h9
    go_split_ands
    go_simp; try with_reducible rfl
  try simp only [Act.put, List.setIfInBounds_toArray, List.set_cons_zero, List.set_cons_succ]
  refine restS_take (v := ?_) 9 rfl (by kernel_rfl) (by kernel_rfl) (by kernel_rfl) (fun _ _ _ h => h) (by rfl) ?_ ?_
  rotate_left
  · intro w9 h9; try dsimp only at h9
    go_split_ands
    go_simp; try with_reducible rfl
  try simp only [Act.put, List.setIfInBounds_toArray, List.set_cons_zero, List.set_cons_succ]
  refine restS_take (v := ?_) 10 rfl (by kernel_rfl) (by kernel_rfl) (by kernel_rfl) (fun _ _ _ h => h) (by rfl) ?_ ?_
  rotate_left
  · intro w9 h9; try dsimp only at h9
    go_split_ands
    go_simp; try with_reducible rfl
  try simp only [Act.put, List.setIfInBounds_toArray, List.set_cons_zero, List.set_cons_succ]
  refine restS_take (v := ?_) 11 rfl (by kernel_rfl) (by kernel_rfl) (by kernel_rfl) (fun _ _ _ h => h) (by rfl) ?_ ?_
  rotate_left
  · intro w9 h9; try dsimp only at h9
    go_split_ands
    go_simp; try with_reducible rfl
  try simp only [Act.put, List.setIfInBounds_toArray, List.set_cons_zero, List.set_cons_succ]
  refine restS_alone 3 rfl (by kernel_rfl) (by rfl) (fun hS K hK => ?_)
  go_wp2_with fail
  refine (c_below g _ _ hD (by omega) (by omega)).mono ?_
  rintro e wb ⟨b, rfl, b0, b1, hDq, hgq⟩
  have hsq := hgq.size
  (first | simp only [World.size_setCell] at hsq | simp only [World.size_alloc] at hsq | skip)
  replace hD := hDq
  have hS2 := hS.trans hgq
  replace hBz := hBz.grown hgq (fun e => by have h7 := Option.some.inj e; omega)
  replace hFz := hFz.grown hgq (fun e => by have h7 := Option.some.inj e; omega)
  replace hOw := hOw.kept hgq (fun k h1 h2 => by have h7 := (hOw.2.2.lt _ h1).1; have h8 := Option.some.inj h2; simp only [World.size_alloc] at h7; omega)
  clear hDq hgq
  refine hK.out _ _ hS2 ?_
  try simp only [Act.put, List.setIfInBounds_toArray, List.set_cons_zero, List.set_cons_succ]
  clear hK K hS
  clear hS2
  refine restS_alone 6 rfl (by kernel_rfl) (by rfl) (fun hS K hK => ?_)
  go_wp2_with fail
  refine (c_below g _ _ hD (by omega) (by omega)).mono ?_
  rintro e wy ⟨y, rfl, y0, y1, hDq, hgq⟩
  have hsq := hgq.size
  (first | simp only [World.size_setCell] at hsq | simp only [World.size_alloc] at hsq | skip)
  replace hD := hDq
  have hS2 := hS.trans hgq
  replace hBz := hBz.grown hgq (fun e => by have h7 := Option.some.inj e; omega)
  replace hFz := hFz.grown hgq (fun e => by have h7 := Option.some.inj e; omega)
  replace hOw := hOw.kept hgq (fun k h1 h2 => by have h7 := (hOw.2.2.lt _ h1).1; have h8 := Option.some.inj h2; simp only [World.size_alloc] at h7; omega)
  clear hDq hgq
  have hw2 : IntKind.i64.wrap ((r : Int) + y) = (r : Int) + y := IntWalk.i64_in _ (by omega)
  refine hK.out _ _ hS2 ?_
  try simp only [Act.put, List.setIfInBounds_toArray, List.set_cons_zero, List.set_cons_succ]
  clear hK K hS
  clear hS2
  refine restS_take (v := ?_) 7 rfl (by kernel_rfl) (by kernel_rfl) (by kernel_rfl) (fun _ _ _ h => h) (by rfl) ?_ ?_
  rotate_left
  · intro w9 h9; try dsimp only at h9
    go_split_ands
    go_simp; try with_reducible rfl
  try simp only [Act.put, List.setIfInBounds_toArray, List.set_cons_zero, List.set_cons_succ]
  refine restS_take (v := ?_) 12 rfl (by kernel_rfl) (by kernel_rfl) (by kernel_rfl) (fun _ _ _ h => h) (by rfl) ?_ ?_
  rotate_left
  · intro w9 h9; try dsimp only at h9
    go_split_ands
    go_simp; try with_reducible rfl
  try simp only [Act.put, List.setIfInBounds_toArray, List.set_cons_zero, List.set_cons_succ]
  refine restS_alone 13 rfl (by kernel_rfl) (by rfl) (fun hS K hK => ?_)
  have q1 := hBz.2
  have q2 := hFz.2
  go_wp2_with fail
  refine hK.out _ _ (by repeat (first | with_reducible exact hS | (with_reducible refine grown_setNew ?_ _ _ ?_; rotate_left; focus (simp)))) ?_
  try simp only [Act.put, List.setIfInBounds_toArray, List.set_cons_zero, List.set_cons_succ]
  clear hK K
  refine restS_done (by kernel_rfl) (fun hS => ?_)
  have hlr : ((D.drop q).take (r - q)).length = r - q := by have h7 := HDl.out; simp; omega
  have Hlr := Lib.hid hlr
  clear hlr
  go_wp2_with fail
  refine bodyPost_ret (v := .agg #[.int .i64 b, .int .i64 ((r : Int) + y), .slice (cutAo ao cap q 9) (r - q) (cap - q)]) (by simp [results, Try.results57, go_sem, *]) rfl ⟨b, (r : Int) + y, (D.drop q).take (r - q), cutAo ao cap q 9, cap - q, by rw [Hlr.out], ListTo.feed HLi.out HDl.out hqr hr8 hr3 b0 (by omega) (by omega) (by omega), by have h7 := Hlr.out; have h8 := Hcap.out; have h9 := HDl.out; omega, ?_, ?_, ?_⟩
  · refine read_cut_rows (E := entryE) (OwnA.read (ty := 70) (cap := cap) (lo := ((w.alloc (.cells ([.int .i64 0, .int .i64 0, .slice none 0 0] : List Value).toArray 44)).alloc (.cells #[] 70)).heap.size) ?_) cap q r (by rw [HDl.out]; exact hr8) Hcap.out
    repeat (first | with_reducible exact hOw | (with_reducible refine OwnA.set ?_ ?_; focus (first | (simp; done) | (simp; omega))))
  · repeat (first | with_reducible exact hD | (with_reducible refine Dice.set ?_ _ _ ?_; rotate_left; focus (simp; omega)))
  · repeat (first | with_reducible exact hS | (with_reducible refine grown_setNew ?_ _ _ ?_; rotate_left; focus (simp)))

end Go.Proofs.Ytpfkfppooeikeaa
