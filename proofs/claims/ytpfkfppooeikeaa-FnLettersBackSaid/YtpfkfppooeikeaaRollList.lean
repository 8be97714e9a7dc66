/- Walks of functions of the program, printed by a program of the prover. -/
import Derived.Test.YtpfkfppooeikeaaRollJobs
import Derived.Test.YtpfkfppooeikeaaFeedP
import Derived.Test.YtpfkfppooeikeaaRowsAt
import Derived.WalkKit
import Derived.WalkSpells
import Derived.Deep.QuietTactic
import Derived.BigQuiet
import Derived.Deep.Light
import Derived.Lib.Hide
import Derived.Deep.RegionHeld3
namespace Go.Proofs.Ytpfkfppooeikeaa
open Go.ChangeShapes Go.WideShapes Go.ChangeAt Go.RowKit Go.Deep
set_option maxHeartbeats 1600000
set_option maxRecDepth 100000

theorem map_seti (L : List Int) (c : Nat) (v : Int) : (L.map (Value.int .i64)).set c (.int .i64 v) = (L.set c v).map (Value.int .i64) := by rw [List.map_set]
theorem Bx.at {w : World} {b : Nat} {L : List Int} (h : Bx w b (L.map (Value.int .i64))) {c : Nat} {x : Int} (hc : L[c]? = some x) : w.cell? ⟨b, c, none⟩ = some (.int .i64 x) := by
  rw [h.2 c, List.getElem?_map, hc]; rfl
/-- the entries that have been made so far -/
def ListTo (D : List (Int × Int × Int × Int × Int × Int × Int × Int × Int)) (t : Int) : Prop :=
  ∀ j, (h : j < D.length) → D[j].1 = (j : Int) + 1 ∧ entB D[j] = true ∧ D[j].2.1 ≤ t ∧ ∀ i, (hi : i < j) → (D[i]'(Nat.lt_trans hi h)).2.1 ≤ D[j].2.1
theorem ListTo.zero (t : Int) : ListTo [] t := fun _ h => absurd h (Nat.not_lt_zero _)
theorem ListTo.step {D : List (Int × Int × Int × Int × Int × Int × Int × Int × Int)} {t t' : Int} {e : Int × Int × Int × Int × Int × Int × Int × Int × Int} (h : ListTo D t) (ht : t ≤ t') (h1 : e.1 = (D.length : Int) + 1) (h2 : entB e = true) (h3 : e.2.1 = t') : ListTo (D ++ [e]) t' := by
  intro j hj
  rw [List.length_append] at hj
  simp only [List.length_cons, List.length_nil] at hj
  by_cases hlt : j < D.length
  · obtain ⟨g1, g2, g3, g4⟩ := h j hlt
    rw [List.getElem_append_left hlt]
    refine ⟨g1, g2, by omega, fun i hi => ?_⟩
    rw [List.getElem_append_left (by omega)]
    exact g4 i hi
  · obtain rfl : j = D.length := by omega
    rw [List.getElem_append_right (Nat.le_refl _)]
    simp only [Nat.sub_self, List.getElem_cons_zero]
    refine ⟨h1, h2, by omega, fun i hi => ?_⟩
    rw [List.getElem_append_left hi, h3]
    exact Int.le_trans (h i hi).2.2.1 ht
def RetList (w : World) (g n : Nat) (e : Ending) (w' : World) : Prop :=
  ∃ (D : List (Int × Int × Int × Int × Int × Int × Int × Int × Int)) (t : Int) (ao : Option Addr) (cap : Nat), e = .returned (.slice ao D.length cap) ∧ D.length = n ∧ ListTo D t ∧ OwnA entryE w' w.heap.size 70 (.slice ao D.length cap) D ∧ Dice w' g ∧ w.grownBy w' (some g)
theorem c_w9List (g n : Nat) (ao0 : Option Addr) (cap0 : Nat) (w : World) (hD : Dice w g) (hn : n ≤ 100) : Calls Try.prog 115 #[.pointer (some ⟨g, 0, none⟩), .slice ao0 0 cap0, .int .i64 n] w (RetList w g n) := by
  obtain ⟨j0, hj, hj0, hj1, hj2⟩ := info_parts info_Entry
  have hlt := hD.lt
  have Hmk : ∀ W : World, (Instr.makeSlice 22 (.int .i64 6) (.int .i64 6)).run Try.prog W = .ok (.slice (some ⟨W.heap.size, 0, none⟩) 6 6) (W.alloc (.cells (([0, 0, 0, 0, 0, 0] : List Int).map (Value.int .i64)).toArray 2)) := fun W => by kernel_rfl
  have hOw : OwnA entryE (w.alloc (.cells #[] 70)) w.heap.size 70 (.slice (some ⟨w.heap.size, 0, none⟩) 0 0) [] := ⟨by simp, by simp, by have h7 := World.ownsRow_lit (base := w.heap.size) (e := 70) (size := entryE.n) w #[] 0 (Nat.le_refl _) (by unfold maxLen; omega) (by simp); simpa using h7⟩
  replace hOw := hOw.below ((Below.refl _ _).alloc (Nat.le_refl _) (.cells (([0, 0, 0, 0, 0, 0] : List Int).map (Value.int .i64)).toArray 2))
  have hBs := Bx.new (w.alloc (.cells #[] 70)) (([0, 0, 0, 0, 0, 0] : List Int).map (Value.int .i64)) 2
  have hFs := Fx.new (w.alloc (.cells #[] 70)) (([0, 0, 0, 0, 0, 0] : List Int).map (Value.int .i64)) 2
  rw [World.size_alloc] at hBs hFs
  have hG := grown_allocNew (World.grownBy_alloc w (.cells #[] 70) (some g)) (.cells (([0, 0, 0, 0, 0, 0] : List Int).map (Value.int .i64)).toArray 2)
  replace hD := (hD.alloc (.cells #[] 70)).alloc (.cells (([0, 0, 0, 0, 0, 0] : List Int).map (Value.int .i64)).toArray 2)
  have HBs := Lib.hid hBs
  have HFs := Lib.hid hFs
  have HG := Lib.hid hG
  have HD := Lib.hid hD
  have HOw := Lib.hid hOw
  clear hBs hFs hG hD hOw
  go_enter Try.func115, Try.ntmps115
  go_wp2_with fail
  go_loopw [9, 10, 11] (fun iv tv nv wr => iv = .int .i64 0 ∧ tv = .int .i64 0 ∧ nv = .int .i64 0 ∧ wr = (w.alloc (.cells #[] 70)).alloc (.cells (([0, 0, 0, 0, 0, 0] : List Int).map (Value.int .i64)).toArray 2)) (fun _ _ _ _ => 0)
  case atStart => exact ⟨rfl, rfl, rfl, rfl⟩
  obtain ⟨rfl, rfl, rfl, rfl⟩ := hrel
  go_wp2_with fail
  go_loopw [2, 7, 9, 10] (fun cv sv iv tv wr => ∃ (k : Nat) (tt : Int) (D : List (Int × Int × Int × Int × Int × Int × Int × Int × Int)) (L : List Int) (ao' : Option Addr) (cap' : Nat), cv = .int .i64 k ∧ sv = .slice ao' D.length cap' ∧ iv = .int .i64 D.length ∧ tv = .int .i64 tt ∧ D.length + k = n ∧ 0 ≤ tt ∧ tt ≤ 5 * (D.length : Int) ∧ Hid (ListTo D tt) ∧ Hid (L.length = 6) ∧ Hid (∀ x ∈ L, 0 ≤ x ∧ x ≤ 2 * (D.length : Int)) ∧ Bx wr (w.heap.size + 1) (L.map (Value.int .i64)) ∧ Fx wr (w.heap.size + 1) ∧ OwnA entryE wr w.heap.size 70 (.slice ao' D.length cap') D ∧ Hid (∀ j, (Value.slice ao' D.length cap').ownBlock = some j → j ≠ w.heap.size + 1) ∧ Dice wr g ∧ w.grownBy wr (some g))
    (fun cv _ _ _ _ => (intOf cv).toNat)
  case atStart => exact ⟨n, 0, [], [0, 0, 0, 0, 0, 0], _, _, rfl, rfl, rfl, rfl, by simp, by omega, by simp, ListTo.zero _, rfl, (fun x hx => by simp at hx; simp [hx]), HBs.out, HFs.out, HOw.out, (fun j hj => by have h7 : w.heap.size = j := Option.some.inj hj; omega), HD.out, HG.out⟩
  case round =>
    clear HBs HFs HG HD HOw Hmk
    obtain ⟨k, tt, D, L, ao', cap', rfl, rfl, rfl, rfl, hDk, ht0, ht1, HLi, HL6, HLb, hBs, hFs, hOw, Hap, hD, hG⟩ := hrel
    by_cases hk0 : 0 < k
    · have hp : (0 : Int) < (k : Int) := by omega
      go_wp2_with fail
      refine (c_below g _ _ hD (by omega) (by omega)).mono ?_
      rintro e wc ⟨c, rfl, c0, c1, hDq, hgq⟩
      have hsq := hgq.size
      (first | simp only [World.size_setCell] at hsq | simp only [World.size_alloc] at hsq | skip)
      replace hD := hDq
      replace hG := hG.trans hgq
      replace hBs := hBs.grown hgq (fun e => by have h7 := Option.some.inj e; omega)
      replace hFs := hFs.grown hgq (fun e => by have h7 := Option.some.inj e; omega)
      replace hOw := hOw.kept hgq (fun k h1 h2 => by have h7 := (hOw.2.2.lt _ h1).1; have h8 := Option.some.inj h2; omega)
      clear hDq hgq
      obtain ⟨q, hq⟩ : ∃ q : Nat, 2 + c = (q : Int) := ⟨(2 + c).toNat, by omega⟩
      have hqL : q < L.length := by rw [HL6.out]; omega
      have hq6 : (q : Int) < 6 := by omega
      have hq6' : q < 6 := by omega
      obtain ⟨x, hxq⟩ : ∃ x, L[q]? = some x := ⟨_, List.getElem?_eq_getElem hqL⟩
      have hxb := HLb.out x (List.mem_of_getElem? hxq)
      have hw1 : IntKind.i64.wrap (x + 1) = x + 1 := IntWalk.i64_in _ (by omega)
      go_wp2_with fail
      replace hG := hG.andThen (grown_of_below (Below.refl _ _).drew) (fun j hj => by cases hj)
      refine restS_begin (fun W => w.grownBy W (some g)) (by kernel_rfl) hG ?_
      clear hG
      replace hBs := hBs.drew
      replace hFs := hFs.drew
      replace hD := hD.below (Below.refl _ _).drew
      replace hOw := hOw.below (Below.refl _ _).drew
      refine restS_take (v := ?_) 0 rfl (by kernel_rfl) (by kernel_rfl) (by kernel_rfl) (fun _ _ _ h => h) (by rfl) ?_ ?_
      rotate_left
      · intro w9 h9; try dsimp only at h9
        go_split_ands
        go_simp; try with_reducible rfl
      try simp only [Act.put, List.setIfInBounds_toArray, List.set_cons_zero, List.set_cons_succ]
      refine restS_take (v := ?_) 1 rfl (by kernel_rfl) (by kernel_rfl) (by kernel_rfl) (fun _ _ _ h => h) (by rfl) ?_ ?_
      rotate_left
      · intro w9 h9; try dsimp only at h9
        go_split_ands
        go_simp; try with_reducible rfl
      try simp only [Act.put, List.setIfInBounds_toArray, List.set_cons_zero, List.set_cons_succ]
      refine restS_take (v := ?_) 2 rfl (by kernel_rfl) (by kernel_rfl) (by kernel_rfl) (fun _ _ _ h => h) (by rfl) ?_ ?_
      rotate_left
      · intro w9 h9; try dsimp only at h9
        go_split_ands
        go_simp; try with_reducible rfl
      try simp only [Act.put, List.setIfInBounds_toArray, List.set_cons_zero, List.set_cons_succ]
      refine restS_take (v := ?_) 3 rfl (by kernel_rfl) (by kernel_rfl) (by kernel_rfl) (fun _ _ _ h => h) (by rfl) ?_ ?_
      rotate_left
      · intro w9 h9; try dsimp only at h9
        go_split_ands
        go_simp; try with_reducible rfl
      try simp only [Act.put, List.setIfInBounds_toArray, List.set_cons_zero, List.set_cons_succ]
      refine restS_take (v := ?_) 4 rfl (by kernel_rfl) (by kernel_rfl) (by kernel_rfl) (fun _ _ _ h => h) (by rfl) ?_ ?_
      rotate_left
      · intro w9 h9; try dsimp only at h9
        go_split_ands
        go_simp; try with_reducible rfl
      try simp only [Act.put, List.setIfInBounds_toArray, List.set_cons_zero, List.set_cons_succ]
      refine restS_take (v := ?_) 7 rfl (by kernel_rfl) (by kernel_rfl) (by kernel_rfl) (fun _ _ _ h => h) (by rfl) ?_ ?_
      rotate_left
      · intro w9 h9; try dsimp only at h9
        go_split_ands
        go_simp; try with_reducible rfl
      try simp only [Act.put, List.setIfInBounds_toArray, List.set_cons_zero, List.set_cons_succ]
      refine restS_two 5 8 rfl rfl (by kernel_rfl) (by rfl) (by rfl) (fun hS K hK => ?_) (fun hS K hK => ?_)
      · skip
        have k0 := hBs.at hxq
        go_wp2_with fail
        clear k0
        refine hK.out _ _ hS ?_
        try simp only [Act.put, List.setIfInBounds_toArray, List.set_cons_zero, List.set_cons_succ]
        clear hK K hS
        refine restS_take (v := ?_) 6 rfl (by kernel_rfl) (by kernel_rfl) (by kernel_rfl) (fun _ _ _ h => h) (by rfl) ?_ ?_
        rotate_left
        · intro w9 h9; try dsimp only at h9
          go_split_ands
          go_simp; try with_reducible rfl
        try simp only [Act.put, List.setIfInBounds_toArray, List.set_cons_zero, List.set_cons_succ]
        refine restS_alone 8 rfl (by kernel_rfl) (by rfl) (fun hS K hK => ?_)
        go_wp2_with fail
        refine (c_below g _ _ hD (by omega) (by omega)).mono ?_
        rintro e wp ⟨p, rfl, p0, p1, hDq, hgq⟩
        have hsq := hgq.size
        (first | simp only [World.size_setCell] at hsq | simp only [World.size_alloc] at hsq | skip)
        replace hD := hDq
        have hS2 := hS.trans hgq
        replace hBs := hBs.grown hgq (fun e => by have h7 := Option.some.inj e; omega)
        replace hFs := hFs.grown hgq (fun e => by have h7 := Option.some.inj e; omega)
        replace hOw := hOw.kept hgq (fun k h1 h2 => by have h7 := (hOw.2.2.lt _ h1).1; have h8 := Option.some.inj h2; omega)
        clear hDq hgq
        have hw2 : IntKind.i64.wrap (x + 1 + p) = x + 1 + p := IntWalk.i64_in _ (by omega)
        refine hK.out _ _ hS2 ?_
        try simp only [Act.put, List.setIfInBounds_toArray, List.set_cons_zero, List.set_cons_succ]
        clear hK K hS
        clear hS2
        refine restS_take (v := ?_) 9 rfl (by kernel_rfl) (by kernel_rfl) (by kernel_rfl) (fun _ _ _ h => h) (by rfl) ?_ ?_
        rotate_left
        · intro w9 h9; try dsimp only at h9
          go_split_ands
          go_simp; try with_reducible rfl
        try simp only [Act.put, List.setIfInBounds_toArray, List.set_cons_zero, List.set_cons_succ]
        refine restS_take (v := ?_) 10 rfl (by kernel_rfl) (by kernel_rfl) (by kernel_rfl) (fun _ _ _ h => h) (by rfl) ?_ ?_
        rotate_left
        · intro w9 h9; try dsimp only at h9
          go_split_ands
          go_simp; try with_reducible rfl
        try simp only [Act.put, List.setIfInBounds_toArray, List.set_cons_zero, List.set_cons_succ]
        refine restS_alone 11 rfl (by kernel_rfl) (by rfl) (fun hS K hK => ?_)
        have q0 := hBs.at hxq
        have q1 := hFs.2
        go_wp2_with fail
        clear q0 q1
        have hBs2 := hBs.set q (.int .i64 (x + 1 + p)) (by rw [List.length_map]; exact hqL)
        rw [map_seti] at hBs2
        replace hBs := hBs2
        clear hBs2
        replace hFs := hFs.set ⟨w.heap.size + 1, q, none⟩ (.int .i64 (x + 1 + p))
        replace hD := hD.set ⟨w.heap.size + 1, q, none⟩ (.int .i64 (x + 1 + p)) (by simp; omega)
        replace hOw := hOw.kept (grownBy_setCell _ ⟨w.heap.size + 1, q, none⟩ (.int .i64 (x + 1 + p))) (fun k h1 h2 => Hap.out k h1 (Option.some.inj h2).symm)
        have hS2 := grown_setNew hS ⟨w.heap.size + 1, q, none⟩ (.int .i64 (x + 1 + p)) (by simp)
        refine hK.out _ _ hS2 ?_
        try simp only [Act.put, List.setIfInBounds_toArray, List.set_cons_zero, List.set_cons_succ]
        clear hK K hS
        clear hS2
        refine restS_done (by kernel_rfl) (fun hS => ?_)
        have hG := hS
        clear hS
        go_wp2_with fail
        refine (c_below g _ _ hD (by omega) (by omega)).mono ?_
        rintro e wu ⟨u, rfl, u0, u1, hDq, hgq⟩
        have hsq := hgq.size
        (first | simp only [World.size_setCell] at hsq | simp only [World.size_alloc] at hsq | skip)
        replace hD := hDq
        replace hG := hG.trans hgq
        replace hBs := hBs.grown hgq (fun e => by have h7 := Option.some.inj e; omega)
        replace hFs := hFs.grown hgq (fun e => by have h7 := Option.some.inj e; omega)
        replace hOw := hOw.kept hgq (fun k h1 h2 => by have h7 := (hOw.2.2.lt _ h1).1; have h8 := Option.some.inj h2; omega)
        clear hDq hgq
        have hxq2 : (L.set q (x + 1 + p))[q]? = some (x + 1 + p) := by rw [List.getElem?_set_self hqL]
        go_wp2_with fail
        replace hG := hG.andThen (grown_of_below (Below.refl _ _).drew) (fun j hj => by cases hj)
        refine restS_begin (fun W => w.grownBy W (some g)) (by kernel_rfl) hG ?_
        clear hG
        replace hBs := hBs.drew
        replace hFs := hFs.drew
        replace hD := hD.below (Below.refl _ _).drew
        replace hOw := hOw.below (Below.refl _ _).drew
        refine restS_take (v := ?_) 0 rfl (by kernel_rfl) (by kernel_rfl) (by kernel_rfl) (fun _ _ _ h => h) (by rfl) ?_ ?_
        rotate_left
        · intro w9 h9; try dsimp only at h9
          go_split_ands
          go_simp; try with_reducible rfl
        try simp only [Act.put, List.setIfInBounds_toArray, List.set_cons_zero, List.set_cons_succ]
        refine restS_take (v := ?_) 1 rfl (by kernel_rfl) (by kernel_rfl) (by kernel_rfl) (fun _ _ _ h => h) (by rfl) ?_ ?_
        rotate_left
        · intro w9 h9; try dsimp only at h9
          go_split_ands
          go_simp; try with_reducible rfl
        try simp only [Act.put, List.setIfInBounds_toArray, List.set_cons_zero, List.set_cons_succ]
        refine restS_take (v := ?_) 2 rfl (by kernel_rfl) (by kernel_rfl) (by kernel_rfl) (fun _ _ _ h => h) (by rfl) ?_ ?_
        rotate_left
        · intro w9 h9; try dsimp only at h9
          go_split_ands
          go_simp; try with_reducible rfl
        try simp only [Act.put, List.setIfInBounds_toArray, List.set_cons_zero, List.set_cons_succ]
        refine restS_take (v := ?_) 3 rfl (by kernel_rfl) (by kernel_rfl) (by kernel_rfl) (fun _ _ _ h => h) (by rfl) ?_ ?_
        rotate_left
        · intro w9 h9; try dsimp only at h9
          go_split_ands
          go_simp; try with_reducible rfl
        try simp only [Act.put, List.setIfInBounds_toArray, List.set_cons_zero, List.set_cons_succ]
        refine restS_take (v := ?_) 4 rfl (by kernel_rfl) (by kernel_rfl) (by kernel_rfl) (fun _ _ _ h => h) (by rfl) ?_ ?_
        rotate_left
        · intro w9 h9; try dsimp only at h9
          go_split_ands
          go_simp; try with_reducible rfl
        try simp only [Act.put, List.setIfInBounds_toArray, List.set_cons_zero, List.set_cons_succ]
        refine restS_take (v := ?_) 5 rfl (by kernel_rfl) (by kernel_rfl) (by kernel_rfl) (fun _ _ _ h => h) (by rfl) ?_ ?_
        rotate_left
        · intro w9 h9; try dsimp only at h9
          go_split_ands
          go_simp; try with_reducible rfl
        try simp only [Act.put, List.setIfInBounds_toArray, List.set_cons_zero, List.set_cons_succ]
        refine restS_take (v := ?_) 6 rfl (by kernel_rfl) (by kernel_rfl) (by kernel_rfl) (fun _ _ _ h => h) (by rfl) ?_ ?_
        rotate_left
        · intro w9 h9; try dsimp only at h9
          go_split_ands
          go_simp; try with_reducible rfl
        try simp only [Act.put, List.setIfInBounds_toArray, List.set_cons_zero, List.set_cons_succ]
        refine restS_take (v := ?_) 8 rfl (by kernel_rfl) (by kernel_rfl) (by kernel_rfl) (fun _ _ _ h => h) (by rfl) ?_ ?_
        rotate_left
        · intro w9 h9; try dsimp only at h9
          go_split_ands
          go_simp; try with_reducible rfl
        try simp only [Act.put, List.setIfInBounds_toArray, List.set_cons_zero, List.set_cons_succ]
        refine restS_two 7 9 rfl rfl (by kernel_rfl) (by rfl) (by rfl) (fun hS K hK => ?_) (fun hS K hK => ?_)
        · skip
          have k0 := hBs.at hxq2
          go_wp2_with fail
          clear k0
          refine hK.out _ _ hS ?_
          try simp only [Act.put, List.setIfInBounds_toArray, List.set_cons_zero, List.set_cons_succ]
          clear hK K hS
          refine restS_alone 9 rfl (by kernel_rfl) (by rfl) (fun hS K hK => ?_)
          go_wp2_with fail
          refine (c_w9Op g _ hD).mono ?_
          rintro e wo ⟨k1, a, b, x1, y, rfl, hO, hDq, hgq⟩
          have hon := opOk_nums hO
          have hsq := hgq.size
          (first | simp only [World.size_setCell] at hsq | simp only [World.size_alloc] at hsq | skip)
          replace hD := hDq
          have hS2 := hS.trans hgq
          replace hBs := hBs.grown hgq (fun e => by have h7 := Option.some.inj e; omega)
          replace hFs := hFs.grown hgq (fun e => by have h7 := Option.some.inj e; omega)
          replace hOw := hOw.kept hgq (fun k h1 h2 => by have h7 := (hOw.2.2.lt _ h1).1; have h8 := Option.some.inj h2; omega)
          clear hDq hgq
          refine hK.out _ _ hS2 ?_
          try simp only [Act.put, List.setIfInBounds_toArray, List.set_cons_zero, List.set_cons_succ]
          clear hK K hS
          clear hS2
          refine restS_take (v := ?_) 10 rfl (by kernel_rfl) (by kernel_rfl) (by kernel_rfl) (fun _ _ _ h => h) (by rfl) ?_ ?_
          rotate_left
          · intro w9 h9; try dsimp only at h9
            go_split_ands
            go_simp; try with_reducible rfl
          try simp only [Act.put, List.setIfInBounds_toArray, List.set_cons_zero, List.set_cons_succ]
          refine restS_alone 11 rfl (by kernel_rfl) (by rfl) (fun hS K hK => ?_)
          go_wp2_with fail
          have hE : entB ((D.length : Int) + 1, tt + u, (q : Int), x + 1 + p, k1, a, b, x1, y) = true := by simp [entB, entryOk, inB, hO]; omega
          have hok : entryE.ok ((D.length : Int) + 1, tt + u, (q : Int), x + 1 + p, k1, a, b, x1, y) := by simp only [entryE]; unfold inI64; omega
          have hL := ownA_lit entryE wo 0 70 ((D.length : Int) + 1, tt + u, (q : Int), x + 1 + p, k1, a, b, x1, y) (Nat.zero_le _) hok
          replace hBs := hBs.alloc (.cells ([.int .i64 ((D.length : Int) + 1), .int .i64 (tt + u), .int .i64 q, .int .i64 (x + 1 + p), .int .i64 k1, .int .i64 a, .int .i64 b, .int .i64 x1, .int .i64 y] : List Value).toArray 70)
          replace hFs := hFs.alloc (.cells ([.int .i64 ((D.length : Int) + 1), .int .i64 (tt + u), .int .i64 q, .int .i64 (x + 1 + p), .int .i64 k1, .int .i64 a, .int .i64 b, .int .i64 x1, .int .i64 y] : List Value).toArray 70)
          replace hD := hD.alloc (.cells ([.int .i64 ((D.length : Int) + 1), .int .i64 (tt + u), .int .i64 q, .int .i64 (x + 1 + p), .int .i64 k1, .int .i64 a, .int .i64 b, .int .i64 x1, .int .i64 y] : List Value).toArray 70)
          replace hOw := hOw.below ((Below.refl _ _).alloc (Nat.le_refl _) (.cells ([.int .i64 ((D.length : Int) + 1), .int .i64 (tt + u), .int .i64 q, .int .i64 (x + 1 + p), .int .i64 k1, .int .i64 a, .int .i64 b, .int .i64 x1, .int .i64 y] : List Value).toArray 70))
          have hS2 := grown_allocNew hS (.cells ([.int .i64 ((D.length : Int) + 1), .int .i64 (tt + u), .int .i64 q, .int .i64 (x + 1 + p), .int .i64 k1, .int .i64 a, .int .i64 b, .int .i64 x1, .int .i64 y] : List Value).toArray 70)
          refine hK.out _ _ hS2 ?_
          try simp only [Act.put, List.setIfInBounds_toArray, List.set_cons_zero, List.set_cons_succ]
          clear hK K hS
          clear hS2
          refine restS_alone 12 rfl (by kernel_rfl) (by rfl) (fun hS K hK => ?_)
          have Hlt := Lib.hid hOw.2.2.lt
          have hBl := hBs.1
          simp only [World.size_alloc] at hBl
          refine wpo_append_one (E := entryE) _ _ _ (by rfl) w.heap.size 70 j0 (.agg #[.int .i64 0, .int .i64 0, .int .i64 0, .int .i64 0, .int .i64 0, .int .i64 0, .int .i64 0, .int .i64 0, .int .i64 0]) 72 Try.underlying42 hj hj0 hj1 hj2 rfl (by omega) entry_one _ _ _ _ D ((D.length : Int) + 1, tt + u, (q : Int), x + 1 + p, k1, a, b, x1, y) (by rfl) hOw (by rfl) hL.read (by omega) (by simp only [World.size_alloc]; omega) (fun a5 c5 w5 ho5 hg5 hap5 => ?_)
          replace hBs := hBs.grown hg5 (fun e => Hap.out _ e rfl)
          replace hFs := hFs.grown hg5 (fun e => Hap.out _ e rfl)
          replace hD := hD.kept hg5 (fun k hk => by have h7 := (Hlt.out _ hk).1; omega)
          have hS2 := hS.andThen hg5 (fun j hj => .inl (Hlt.out _ hj).1)
          have Hap5 : Hid (∀ j, (Value.slice a5 (D.length + 1) c5).ownBlock = some j → j ≠ w.heap.size + 1) := fun j hj => by
            rcases hap5 with h7 | h7
            · exact Hap.out j (h7.symm.trans hj)
            · have h8 := Option.some.inj (h7.symm.trans hj)
              simp only [World.size_alloc] at h8
              omega
          have HE := Lib.hid hE
          clear hap5 hL hOw hok hE
          refine hK.out _ _ hS2 ?_
          try simp only [Act.put, List.setIfInBounds_toArray, List.set_cons_zero, List.set_cons_succ]
          clear hK K hS
          clear hS2
          refine restS_take (v := ?_) 13 rfl (by kernel_rfl) (by kernel_rfl) (by kernel_rfl) (fun _ _ _ h => h) (by rfl) ?_ ?_
          rotate_left
          · intro w9 h9; try dsimp only at h9
            go_split_ands
            go_simp; try with_reducible rfl
          try simp only [Act.put, List.setIfInBounds_toArray, List.set_cons_zero, List.set_cons_succ]
          refine restS_done (by kernel_rfl) (fun hS => ?_)
          have hG := hS
          clear hS
          go_wp2_with fail
          go_roundw
          case rel =>
            have hlen : (D ++ [((D.length : Int) + 1, tt + u, (q : Int), x + 1 + p, k1, a, b, x1, y)]).length = D.length + 1 := by simp
            have hbd : Hid (∀ z ∈ L.set q (x + 1 + p), 0 ≤ z ∧ z ≤ 2 * ((D ++ [((D.length : Int) + 1, tt + u, (q : Int), x + 1 + p, k1, a, b, x1, y)]).length : Int)) := fun z hz => by
              rw [hlen]
              rcases List.mem_or_eq_of_mem_set hz with h7 | h7
              · have h8 := HLb.out z h7; omega
              · omega
            exact ⟨k - 1, tt + u, D ++ [((D.length : Int) + 1, tt + u, (q : Int), x + 1 + p, k1, a, b, x1, y)], L.set q (x + 1 + p), a5, c5, congrArg (Value.int .i64) (by omega), by rw [hlen], by rw [hlen]; rfl, rfl, by omega, by omega, by omega, ListTo.step HLi.out (by omega) rfl HE.out rfl, (by show (L.set q _).length = 6; rw [List.length_set]; exact HL6.out), hbd, hBs, hFs, (by rw [hlen]; exact ho5), (by rw [hlen]; exact Hap5), hD, hG⟩
          case measure => simp [intOf]; omega
        · skip
          go_wp2_with fail
          refine (c_w9Op g _ hD).mono ?_
          rintro e wo ⟨k1, a, b, x1, y, rfl, hO, hDq, hgq⟩
          have hon := opOk_nums hO
          have hsq := hgq.size
          (first | simp only [World.size_setCell] at hsq | simp only [World.size_alloc] at hsq | skip)
          replace hD := hDq
          have hS2 := hS.trans hgq
          replace hBs := hBs.grown hgq (fun e => by have h7 := Option.some.inj e; omega)
          replace hFs := hFs.grown hgq (fun e => by have h7 := Option.some.inj e; omega)
          replace hOw := hOw.kept hgq (fun k h1 h2 => by have h7 := (hOw.2.2.lt _ h1).1; have h8 := Option.some.inj h2; omega)
          clear hDq hgq
          refine hK.out _ _ hS2 ?_
          try simp only [Act.put, List.setIfInBounds_toArray, List.set_cons_zero, List.set_cons_succ]
          clear hK K hS
          clear hS2
          refine restS_alone 7 rfl (by kernel_rfl) (by rfl) (fun hS K hK => ?_)
          have k0 := hBs.at hxq2
          go_wp2_with fail
          clear k0
          refine hK.out _ _ hS ?_
          try simp only [Act.put, List.setIfInBounds_toArray, List.set_cons_zero, List.set_cons_succ]
          clear hK K hS
          refine restS_take (v := ?_) 10 rfl (by kernel_rfl) (by kernel_rfl) (by kernel_rfl) (fun _ _ _ h => h) (by rfl) ?_ ?_
          rotate_left
          · intro w9 h9; try dsimp only at h9
            go_split_ands
            go_simp; try with_reducible rfl
          try simp only [Act.put, List.setIfInBounds_toArray, List.set_cons_zero, List.set_cons_succ]
          refine restS_alone 11 rfl (by kernel_rfl) (by rfl) (fun hS K hK => ?_)
          go_wp2_with fail
          have hE : entB ((D.length : Int) + 1, tt + u, (q : Int), x + 1 + p, k1, a, b, x1, y) = true := by simp [entB, entryOk, inB, hO]; omega
          have hok : entryE.ok ((D.length : Int) + 1, tt + u, (q : Int), x + 1 + p, k1, a, b, x1, y) := by simp only [entryE]; unfold inI64; omega
          have hL := ownA_lit entryE wo 0 70 ((D.length : Int) + 1, tt + u, (q : Int), x + 1 + p, k1, a, b, x1, y) (Nat.zero_le _) hok
          replace hBs := hBs.alloc (.cells ([.int .i64 ((D.length : Int) + 1), .int .i64 (tt + u), .int .i64 q, .int .i64 (x + 1 + p), .int .i64 k1, .int .i64 a, .int .i64 b, .int .i64 x1, .int .i64 y] : List Value).toArray 70)
          replace hFs := hFs.alloc (.cells ([.int .i64 ((D.length : Int) + 1), .int .i64 (tt + u), .int .i64 q, .int .i64 (x + 1 + p), .int .i64 k1, .int .i64 a, .int .i64 b, .int .i64 x1, .int .i64 y] : List Value).toArray 70)
          replace hD := hD.alloc (.cells ([.int .i64 ((D.length : Int) + 1), .int .i64 (tt + u), .int .i64 q, .int .i64 (x + 1 + p), .int .i64 k1, .int .i64 a, .int .i64 b, .int .i64 x1, .int .i64 y] : List Value).toArray 70)
          replace hOw := hOw.below ((Below.refl _ _).alloc (Nat.le_refl _) (.cells ([.int .i64 ((D.length : Int) + 1), .int .i64 (tt + u), .int .i64 q, .int .i64 (x + 1 + p), .int .i64 k1, .int .i64 a, .int .i64 b, .int .i64 x1, .int .i64 y] : List Value).toArray 70))
          have hS2 := grown_allocNew hS (.cells ([.int .i64 ((D.length : Int) + 1), .int .i64 (tt + u), .int .i64 q, .int .i64 (x + 1 + p), .int .i64 k1, .int .i64 a, .int .i64 b, .int .i64 x1, .int .i64 y] : List Value).toArray 70)
          refine hK.out _ _ hS2 ?_
          try simp only [Act.put, List.setIfInBounds_toArray, List.set_cons_zero, List.set_cons_succ]
          clear hK K hS
          clear hS2
          refine restS_alone 12 rfl (by kernel_rfl) (by rfl) (fun hS K hK => ?_)
          have Hlt := Lib.hid hOw.2.2.lt
          have hBl := hBs.1
          simp only [World.size_alloc] at hBl
          refine wpo_append_one (E := entryE) _ _ _ (by rfl) w.heap.size 70 j0 (.agg #[.int .i64 0, .int .i64 0, .int .i64 0, .int .i64 0, .int .i64 0, .int .i64 0, .int .i64 0, .int .i64 0, .int .i64 0]) 72 Try.underlying42 hj hj0 hj1 hj2 rfl (by omega) entry_one _ _ _ _ D ((D.length : Int) + 1, tt + u, (q : Int), x + 1 + p, k1, a, b, x1, y) (by rfl) hOw (by rfl) hL.read (by omega) (by simp only [World.size_alloc]; omega) (fun a5 c5 w5 ho5 hg5 hap5 => ?_)
          replace hBs := hBs.grown hg5 (fun e => Hap.out _ e rfl)
          replace hFs := hFs.grown hg5 (fun e => Hap.out _ e rfl)
          replace hD := hD.kept hg5 (fun k hk => by have h7 := (Hlt.out _ hk).1; omega)
          have hS2 := hS.andThen hg5 (fun j hj => .inl (Hlt.out _ hj).1)
          have Hap5 : Hid (∀ j, (Value.slice a5 (D.length + 1) c5).ownBlock = some j → j ≠ w.heap.size + 1) := fun j hj => by
            rcases hap5 with h7 | h7
            · exact Hap.out j (h7.symm.trans hj)
            · have h8 := Option.some.inj (h7.symm.trans hj)
              simp only [World.size_alloc] at h8
              omega
          have HE := Lib.hid hE
          clear hap5 hL hOw hok hE
          refine hK.out _ _ hS2 ?_
          try simp only [Act.put, List.setIfInBounds_toArray, List.set_cons_zero, List.set_cons_succ]
          clear hK K hS
          clear hS2
          refine restS_take (v := ?_) 13 rfl (by kernel_rfl) (by kernel_rfl) (by kernel_rfl) (fun _ _ _ h => h) (by rfl) ?_ ?_
          rotate_left
          · intro w9 h9; try dsimp only at h9
            go_split_ands
            go_simp; try with_reducible rfl
          try simp only [Act.put, List.setIfInBounds_toArray, List.set_cons_zero, List.set_cons_succ]
          refine restS_done (by kernel_rfl) (fun hS => ?_)
          have hG := hS
          clear hS
          go_wp2_with fail
          go_roundw
          case rel =>
            have hlen : (D ++ [((D.length : Int) + 1, tt + u, (q : Int), x + 1 + p, k1, a, b, x1, y)]).length = D.length + 1 := by simp
            have hbd : Hid (∀ z ∈ L.set q (x + 1 + p), 0 ≤ z ∧ z ≤ 2 * ((D ++ [((D.length : Int) + 1, tt + u, (q : Int), x + 1 + p, k1, a, b, x1, y)]).length : Int)) := fun z hz => by
              rw [hlen]
              rcases List.mem_or_eq_of_mem_set hz with h7 | h7
              · have h8 := HLb.out z h7; omega
              · omega
            exact ⟨k - 1, tt + u, D ++ [((D.length : Int) + 1, tt + u, (q : Int), x + 1 + p, k1, a, b, x1, y)], L.set q (x + 1 + p), a5, c5, congrArg (Value.int .i64) (by omega), by rw [hlen], by rw [hlen]; rfl, rfl, by omega, by omega, by omega, ListTo.step HLi.out (by omega) rfl HE.out rfl, (by show (L.set q _).length = 6; rw [List.length_set]; exact HL6.out), hbd, hBs, hFs, (by rw [hlen]; exact ho5), (by rw [hlen]; exact Hap5), hD, hG⟩
          case measure => simp [intOf]; omega
      · skip
        go_wp2_with fail
        refine (c_below g _ _ hD (by omega) (by omega)).mono ?_
        rintro e wp ⟨p, rfl, p0, p1, hDq, hgq⟩
        have hsq := hgq.size
        (first | simp only [World.size_setCell] at hsq | simp only [World.size_alloc] at hsq | skip)
        replace hD := hDq
        have hS2 := hS.trans hgq
        replace hBs := hBs.grown hgq (fun e => by have h7 := Option.some.inj e; omega)
        replace hFs := hFs.grown hgq (fun e => by have h7 := Option.some.inj e; omega)
        replace hOw := hOw.kept hgq (fun k h1 h2 => by have h7 := (hOw.2.2.lt _ h1).1; have h8 := Option.some.inj h2; omega)
        clear hDq hgq
        have hw2 : IntKind.i64.wrap (x + 1 + p) = x + 1 + p := IntWalk.i64_in _ (by omega)
        refine hK.out _ _ hS2 ?_
        try simp only [Act.put, List.setIfInBounds_toArray, List.set_cons_zero, List.set_cons_succ]
        clear hK K hS
        clear hS2
        refine restS_alone 5 rfl (by kernel_rfl) (by rfl) (fun hS K hK => ?_)
        have k0 := hBs.at hxq
        go_wp2_with fail
        clear k0
        refine hK.out _ _ hS ?_
        try simp only [Act.put, List.setIfInBounds_toArray, List.set_cons_zero, List.set_cons_succ]
        clear hK K hS
        refine restS_take (v := ?_) 6 rfl (by kernel_rfl) (by kernel_rfl) (by kernel_rfl) (fun _ _ _ h => h) (by rfl) ?_ ?_
        rotate_left
        · intro w9 h9; try dsimp only at h9
          go_split_ands
          go_simp; try with_reducible rfl
        try simp only [Act.put, List.setIfInBounds_toArray, List.set_cons_zero, List.set_cons_succ]
        refine restS_take (v := ?_) 9 rfl (by kernel_rfl) (by kernel_rfl) (by kernel_rfl) (fun _ _ _ h => h) (by rfl) ?_ ?_
        rotate_left
        · intro w9 h9; try dsimp only at h9
          go_split_ands
          go_simp; try with_reducible rfl
        try simp only [Act.put, List.setIfInBounds_toArray, List.set_cons_zero, List.set_cons_succ]
        refine restS_take (v := ?_) 10 rfl (by kernel_rfl) (by kernel_rfl) (by kernel_rfl) (fun _ _ _ h => h) (by rfl) ?_ ?_
        rotate_left
        · intro w9 h9; try dsimp only at h9
          go_split_ands
          go_simp; try with_reducible rfl
        try simp only [Act.put, List.setIfInBounds_toArray, List.set_cons_zero, List.set_cons_succ]
        refine restS_alone 11 rfl (by kernel_rfl) (by rfl) (fun hS K hK => ?_)
        have q0 := hBs.at hxq
        have q1 := hFs.2
        go_wp2_with fail
        clear q0 q1
        have hBs2 := hBs.set q (.int .i64 (x + 1 + p)) (by rw [List.length_map]; exact hqL)
        rw [map_seti] at hBs2
        replace hBs := hBs2
        clear hBs2
        replace hFs := hFs.set ⟨w.heap.size + 1, q, none⟩ (.int .i64 (x + 1 + p))
        replace hD := hD.set ⟨w.heap.size + 1, q, none⟩ (.int .i64 (x + 1 + p)) (by simp; omega)
        replace hOw := hOw.kept (grownBy_setCell _ ⟨w.heap.size + 1, q, none⟩ (.int .i64 (x + 1 + p))) (fun k h1 h2 => Hap.out k h1 (Option.some.inj h2).symm)
        have hS2 := grown_setNew hS ⟨w.heap.size + 1, q, none⟩ (.int .i64 (x + 1 + p)) (by simp)
        refine hK.out _ _ hS2 ?_
        try simp only [Act.put, List.setIfInBounds_toArray, List.set_cons_zero, List.set_cons_succ]
        clear hK K hS
        clear hS2
        refine restS_done (by kernel_rfl) (fun hS => ?_)
        have hG := hS
        clear hS
        go_wp2_with fail
        refine (c_below g _ _ hD (by omega) (by omega)).mono ?_
        rintro e wu ⟨u, rfl, u0, u1, hDq, hgq⟩
        have hsq := hgq.size
        (first | simp only [World.size_setCell] at hsq | simp only [World.size_alloc] at hsq | skip)
        replace hD := hDq
        replace hG := hG.trans hgq
        replace hBs := hBs.grown hgq (fun e => by have h7 := Option.some.inj e; omega)
        replace hFs := hFs.grown hgq (fun e => by have h7 := Option.some.inj e; omega)
        replace hOw := hOw.kept hgq (fun k h1 h2 => by have h7 := (hOw.2.2.lt _ h1).1; have h8 := Option.some.inj h2; omega)
        clear hDq hgq
        have hxq2 : (L.set q (x + 1 + p))[q]? = some (x + 1 + p) := by rw [List.getElem?_set_self hqL]
        go_wp2_with fail
        replace hG := hG.andThen (grown_of_below (Below.refl _ _).drew) (fun j hj => by cases hj)
        refine restS_begin (fun W => w.grownBy W (some g)) (by kernel_rfl) hG ?_
        clear hG
        replace hBs := hBs.drew
        replace hFs := hFs.drew
        replace hD := hD.below (Below.refl _ _).drew
        replace hOw := hOw.below (Below.refl _ _).drew
        refine restS_take (v := ?_) 0 rfl (by kernel_rfl) (by kernel_rfl) (by kernel_rfl) (fun _ _ _ h => h) (by rfl) ?_ ?_
        rotate_left
        · intro w9 h9; try dsimp only at h9
          go_split_ands
          go_simp; try with_reducible rfl
        try simp only [Act.put, List.setIfInBounds_toArray, List.set_cons_zero, List.set_cons_succ]
        refine restS_take (v := ?_) 1 rfl (by kernel_rfl) (by kernel_rfl) (by kernel_rfl) (fun _ _ _ h => h) (by rfl) ?_ ?_
        rotate_left
        · intro w9 h9; try dsimp only at h9
          go_split_ands
          go_simp; try with_reducible rfl
        try simp only [Act.put, List.setIfInBounds_toArray, List.set_cons_zero, List.set_cons_succ]
        refine restS_take (v := ?_) 2 rfl (by kernel_rfl) (by kernel_rfl) (by kernel_rfl) (fun _ _ _ h => h) (by rfl) ?_ ?_
        rotate_left
        · intro w9 h9; try dsimp only at h9
          go_split_ands
          go_simp; try with_reducible rfl
        try simp only [Act.put, List.setIfInBounds_toArray, List.set_cons_zero, List.set_cons_succ]
        refine restS_take (v := ?_) 3 rfl (by kernel_rfl) (by kernel_rfl) (by kernel_rfl) (fun _ _ _ h => h) (by rfl) ?_ ?_
        rotate_left
        · intro w9 h9; try dsimp only at h9
          go_split_ands
          go_simp; try with_reducible rfl
        try simp only [Act.put, List.setIfInBounds_toArray, List.set_cons_zero, List.set_cons_succ]
        refine restS_take (v := ?_) 4 rfl (by kernel_rfl) (by kernel_rfl) (by kernel_rfl) (fun _ _ _ h => h) (by rfl) ?_ ?_
        rotate_left
        · intro w9 h9; try dsimp only at h9
          go_split_ands
          go_simp; try with_reducible rfl
        try simp only [Act.put, List.setIfInBounds_toArray, List.set_cons_zero, List.set_cons_succ]
        refine restS_take (v := ?_) 5 rfl (by kernel_rfl) (by kernel_rfl) (by kernel_rfl) (fun _ _ _ h => h) (by rfl) ?_ ?_
        rotate_left
        · intro w9 h9; try dsimp only at h9
          go_split_ands
          go_simp; try with_reducible rfl
        try simp only [Act.put, List.setIfInBounds_toArray, List.set_cons_zero, List.set_cons_succ]
        refine restS_take (v := ?_) 6 rfl (by kernel_rfl) (by kernel_rfl) (by kernel_rfl) (fun _ _ _ h => h) (by rfl) ?_ ?_
        rotate_left
        · intro w9 h9; try dsimp only at h9
          go_split_ands
          go_simp; try with_reducible rfl
        try simp only [Act.put, List.setIfInBounds_toArray, List.set_cons_zero, List.set_cons_succ]
        refine restS_take (v := ?_) 8 rfl (by kernel_rfl) (by kernel_rfl) (by kernel_rfl) (fun _ _ _ h => h) (by rfl) ?_ ?_
        rotate_left
        · intro w9 h9; try dsimp only at h9
          go_split_ands
          go_simp; try with_reducible rfl
        try simp only [Act.put, List.setIfInBounds_toArray, List.set_cons_zero, List.set_cons_succ]
        refine restS_two 7 9 rfl rfl (by kernel_rfl) (by rfl) (by rfl) (fun hS K hK => ?_) (fun hS K hK => ?_)
        · skip
          have k0 := hBs.at hxq2
          go_wp2_with fail
          clear k0
          refine hK.out _ _ hS ?_
          try simp only [Act.put, List.setIfInBounds_toArray, List.set_cons_zero, List.set_cons_succ]
          clear hK K hS
          refine restS_alone 9 rfl (by kernel_rfl) (by rfl) (fun hS K hK => ?_)
          go_wp2_with fail
          refine (c_w9Op g _ hD).mono ?_
          rintro e wo ⟨k1, a, b, x1, y, rfl, hO, hDq, hgq⟩
          have hon := opOk_nums hO
          have hsq := hgq.size
          (first | simp only [World.size_setCell] at hsq | simp only [World.size_alloc] at hsq | skip)
          replace hD := hDq
          have hS2 := hS.trans hgq
          replace hBs := hBs.grown hgq (fun e => by have h7 := Option.some.inj e; omega)
          replace hFs := hFs.grown hgq (fun e => by have h7 := Option.some.inj e; omega)
          replace hOw := hOw.kept hgq (fun k h1 h2 => by have h7 := (hOw.2.2.lt _ h1).1; have h8 := Option.some.inj h2; omega)
          clear hDq hgq
          refine hK.out _ _ hS2 ?_
          try simp only [Act.put, List.setIfInBounds_toArray, List.set_cons_zero, List.set_cons_succ]
          clear hK K hS
          clear hS2
          refine restS_take (v := ?_) 10 rfl (by kernel_rfl) (by kernel_rfl) (by kernel_rfl) (fun _ _ _ h => h) (by rfl) ?_ ?_
          rotate_left
          · intro w9 h9; try dsimp only at h9
            go_split_ands
            go_simp; try with_reducible rfl
          try simp only [Act.put, List.setIfInBounds_toArray, List.set_cons_zero, List.set_cons_succ]
          refine restS_alone 11 rfl (by kernel_rfl) (by rfl) (fun hS K hK => ?_)
          go_wp2_with fail
          have hE : entB ((D.length : Int) + 1, tt + u, (q : Int), x + 1 + p, k1, a, b, x1, y) = true := by simp [entB, entryOk, inB, hO]; omega
          have hok : entryE.ok ((D.length : Int) + 1, tt + u, (q : Int), x + 1 + p, k1, a, b, x1, y) := by simp only [entryE]; unfold inI64; omega
          have hL := ownA_lit entryE wo 0 70 ((D.length : Int) + 1, tt + u, (q : Int), x + 1 + p, k1, a, b, x1, y) (Nat.zero_le _) hok
          replace hBs := hBs.alloc (.cells ([.int .i64 ((D.length : Int) + 1), .int .i64 (tt + u), .int .i64 q, .int .i64 (x + 1 + p), .int .i64 k1, .int .i64 a, .int .i64 b, .int .i64 x1, .int .i64 y] : List Value).toArray 70)
          replace hFs := hFs.alloc (.cells ([.int .i64 ((D.length : Int) + 1), .int .i64 (tt + u), .int .i64 q, .int .i64 (x + 1 + p), .int .i64 k1, .int .i64 a, .int .i64 b, .int .i64 x1, .int .i64 y] : List Value).toArray 70)
          replace hD := hD.alloc (.cells ([.int .i64 ((D.length : Int) + 1), .int .i64 (tt + u), .int .i64 q, .int .i64 (x + 1 + p), .int .i64 k1, .int .i64 a, .int .i64 b, .int .i64 x1, .int .i64 y] : List Value).toArray 70)
          replace hOw := hOw.below ((Below.refl _ _).alloc (Nat.le_refl _) (.cells ([.int .i64 ((D.length : Int) + 1), .int .i64 (tt + u), .int .i64 q, .int .i64 (x + 1 + p), .int .i64 k1, .int .i64 a, .int .i64 b, .int .i64 x1, .int .i64 y] : List Value).toArray 70))
          have hS2 := grown_allocNew hS (.cells ([.int .i64 ((D.length : Int) + 1), .int .i64 (tt + u), .int .i64 q, .int .i64 (x + 1 + p), .int .i64 k1, .int .i64 a, .int .i64 b, .int .i64 x1, .int .i64 y] : List Value).toArray 70)
          refine hK.out _ _ hS2 ?_
          try simp only [Act.put, List.setIfInBounds_toArray, List.set_cons_zero, List.set_cons_succ]
          clear hK K hS
          clear hS2
          refine restS_alone 12 rfl (by kernel_rfl) (by rfl) (fun hS K hK => ?_)
          have Hlt := Lib.hid hOw.2.2.lt
          have hBl := hBs.1
          simp only [World.size_alloc] at hBl
          refine wpo_append_one (E := entryE) _ _ _ (by rfl) w.heap.size 70 j0 (.agg #[.int .i64 0, .int .i64 0, .int .i64 0, .int .i64 0, .int .i64 0, .int .i64 0, .int .i64 0, .int .i64 0, .int .i64 0]) 72 Try.underlying42 hj hj0 hj1 hj2 rfl (by omega) entry_one _ _ _ _ D ((D.length : Int) + 1, tt + u, (q : Int), x + 1 + p, k1, a, b, x1, y) (by rfl) hOw (by rfl) hL.read (by omega) (by simp only [World.size_alloc]; omega) (fun a5 c5 w5 ho5 hg5 hap5 => ?_)
          replace hBs := hBs.grown hg5 (fun e => Hap.out _ e rfl)
          replace hFs := hFs.grown hg5 (fun e => Hap.out _ e rfl)
          replace hD := hD.kept hg5 (fun k hk => by have h7 := (Hlt.out _ hk).1; omega)
          have hS2 := hS.andThen hg5 (fun j hj => .inl (Hlt.out _ hj).1)
          have Hap5 : Hid (∀ j, (Value.slice a5 (D.length + 1) c5).ownBlock = some j → j ≠ w.heap.size + 1) := fun j hj => by
            rcases hap5 with h7 | h7
            · exact Hap.out j (h7.symm.trans hj)
            · have h8 := Option.some.inj (h7.symm.trans hj)
              simp only [World.size_alloc] at h8
              omega
          have HE := Lib.hid hE
          clear hap5 hL hOw hok hE
          refine hK.out _ _ hS2 ?_
          try simp only [Act.put, List.setIfInBounds_toArray, List.set_cons_zero, List.set_cons_succ]
          clear hK K hS
          clear hS2
          refine restS_take (v := ?_) 13 rfl (by kernel_rfl) (by kernel_rfl) (by kernel_rfl) (fun _ _ _ h => h) (by rfl) ?_ ?_
          rotate_left
          · intro w9 h9; try dsimp only at h9
            go_split_ands
            go_simp; try with_reducible rfl
          try simp only [Act.put, List.setIfInBounds_toArray, List.set_cons_zero, List.set_cons_succ]
          refine restS_done (by kernel_rfl) (fun hS => ?_)
          have hG := hS
          clear hS
          go_wp2_with fail
          go_roundw
          case rel =>
            have hlen : (D ++ [((D.length : Int) + 1, tt + u, (q : Int), x + 1 + p, k1, a, b, x1, y)]).length = D.length + 1 := by simp
            have hbd : Hid (∀ z ∈ L.set q (x + 1 + p), 0 ≤ z ∧ z ≤ 2 * ((D ++ [((D.length : Int) + 1, tt + u, (q : Int), x + 1 + p, k1, a, b, x1, y)]).length : Int)) := fun z hz => by
              rw [hlen]
              rcases List.mem_or_eq_of_mem_set hz with h7 | h7
              · have h8 := HLb.out z h7; omega
              · omega
            exact ⟨k - 1, tt + u, D ++ [((D.length : Int) + 1, tt + u, (q : Int), x + 1 + p, k1, a, b, x1, y)], L.set q (x + 1 + p), a5, c5, congrArg (Value.int .i64) (by omega), by rw [hlen], by rw [hlen]; rfl, rfl, by omega, by omega, by omega, ListTo.step HLi.out (by omega) rfl HE.out rfl, (by show (L.set q _).length = 6; rw [List.length_set]; exact HL6.out), hbd, hBs, hFs, (by rw [hlen]; exact ho5), (by rw [hlen]; exact Hap5), hD, hG⟩
          case measure => simp [intOf]; omega
        · skip
          go_wp2_with fail
          refine (c_w9Op g _ hD).mono ?_
          rintro e wo ⟨k1, a, b, x1, y, rfl, hO, hDq, hgq⟩
          have hon := opOk_nums hO
          have hsq := hgq.size
          (first | simp only [World.size_setCell] at hsq | simp only [World.size_alloc] at hsq | skip)
          replace hD := hDq
          have hS2 := hS.trans hgq
          replace hBs := hBs.grown hgq (fun e => by have h7 := Option.some.inj e; omega)
          replace hFs := hFs.grown hgq (fun e => by have h7 := Option.some.inj e; omega)
          replace hOw := hOw.kept hgq (fun k h1 h2 => by have h7 := (hOw.2.2.lt _ h1).1; have h8 := Option.some.inj h2; omega)
          clear hDq hgq
          refine hK.out _ _ hS2 ?_
          try simp only [Act.put, List.setIfInBounds_toArray, List.set_cons_zero, List.set_cons_succ]
          clear hK K hS
          clear hS2
          refine restS_alone 7 rfl (by kernel_rfl) (by rfl) (fun hS K hK => ?_)
          have k0 := hBs.at hxq2
          go_wp2_with fail
          clear k0
          refine hK.out _ _ hS ?_
          try simp only [Act.put, List.setIfInBounds_toArray, List.set_cons_zero, List.set_cons_succ]
          clear hK K hS
          refine restS_take (v := ?_) 10 rfl (by kernel_rfl) (by kernel_rfl) (by kernel_rfl) (fun _ _ _ h => h) (by rfl) ?_ ?_
          rotate_left
          · intro w9 h9; try dsimp only at h9
            go_split_ands
            go_simp; try with_reducible rfl
          try simp only [Act.put, List.setIfInBounds_toArray, List.set_cons_zero, List.set_cons_succ]
          refine restS_alone 11 rfl (by kernel_rfl) (by rfl) (fun hS K hK => ?_)
          go_wp2_with fail
          have hE : entB ((D.length : Int) + 1, tt + u, (q : Int), x + 1 + p, k1, a, b, x1, y) = true := by simp [entB, entryOk, inB, hO]; omega
          have hok : entryE.ok ((D.length : Int) + 1, tt + u, (q : Int), x + 1 + p, k1, a, b, x1, y) := by simp only [entryE]; unfold inI64; omega
          have hL := ownA_lit entryE wo 0 70 ((D.length : Int) + 1, tt + u, (q : Int), x + 1 + p, k1, a, b, x1, y) (Nat.zero_le _) hok
          replace hBs := hBs.alloc (.cells ([.int .i64 ((D.length : Int) + 1), .int .i64 (tt + u), .int .i64 q, .int .i64 (x + 1 + p), .int .i64 k1, .int .i64 a, .int .i64 b, .int .i64 x1, .int .i64 y] : List Value).toArray 70)
          replace hFs := hFs.alloc (.cells ([.int .i64 ((D.length : Int) + 1), .int .i64 (tt + u), .int .i64 q, .int .i64 (x + 1 + p), .int .i64 k1, .int .i64 a, .int .i64 b, .int .i64 x1, .int .i64 y] : List Value).toArray 70)
          replace hD := hD.alloc (.cells ([.int .i64 ((D.length : Int) + 1), .int .i64 (tt + u), .int .i64 q, .int .i64 (x + 1 + p), .int .i64 k1, .int .i64 a, .int .i64 b, .int .i64 x1, .int .i64 y] : List Value).toArray 70)
          replace hOw := hOw.below ((Below.refl _ _).alloc (Nat.le_refl _) (.cells ([.int .i64 ((D.length : Int) + 1), .int .i64 (tt + u), .int .i64 q, .int .i64 (x + 1 + p), .int .i64 k1, .int .i64 a, .int .i64 b, .int .i64 x1, .int .i64 y] : List Value).toArray 70))
          have hS2 := grown_allocNew hS (.cells ([.int .i64 ((D.length : Int) + 1), .int .i64 (tt + u), .int .i64 q, .int .i64 (x + 1 + p), .int .i64 k1, .int .i64 a, .int .i64 b, .int .i64 x1, .int .i64 y] : List Value).toArray 70)
          refine hK.out _ _ hS2 ?_
          try simp only [Act.put, List.setIfInBounds_toArray, List.set_cons_zero, List.set_cons_succ]
          clear hK K hS
          clear hS2
          refine restS_alone 12 rfl (by kernel_rfl) (by rfl) (fun hS K hK => ?_)
          have Hlt := Lib.hid hOw.2.2.lt
          have hBl := hBs.1
          simp only [World.size_alloc] at hBl
          refine wpo_append_one (E := entryE) _ _ _ (by rfl) w.heap.size 70 j0 (.agg #[.int .i64 0, .int .i64 0, .int .i64 0, .int .i64 0, .int .i64 0, .int .i64 0, .int .i64 0, .int .i64 0, .int .i64 0]) 72 Try.underlying42 hj hj0 hj1 hj2 rfl (by omega) entry_one _ _ _ _ D ((D.length : Int) + 1, tt + u, (q : Int), x + 1 + p, k1, a, b, x1, y) (by rfl) hOw (by rfl) hL.read (by omega) (by simp only [World.size_alloc]; omega) (fun a5 c5 w5 ho5 hg5 hap5 => ?_)
          replace hBs := hBs.grown hg5 (fun e => Hap.out _ e rfl)
          replace hFs := hFs.grown hg5 (fun e => Hap.out _ e rfl)
          replace hD := hD.kept hg5 (fun k hk => by have h7 := (Hlt.out _ hk).1; omega)
          have hS2 := hS.andThen hg5 (fun j hj => .inl (Hlt.out _ hj).1)
          have Hap5 : Hid (∀ j, (Value.slice a5 (D.length + 1) c5).ownBlock = some j → j ≠ w.heap.size + 1) := fun j hj => by
            rcases hap5 with h7 | h7
            · exact Hap.out j (h7.symm.trans hj)
            · have h8 := Option.some.inj (h7.symm.trans hj)
              simp only [World.size_alloc] at h8
              omega
          have HE := Lib.hid hE
          clear hap5 hL hOw hok hE
          refine hK.out _ _ hS2 ?_
          try simp only [Act.put, List.setIfInBounds_toArray, List.set_cons_zero, List.set_cons_succ]
          clear hK K hS
          clear hS2
          refine restS_take (v := ?_) 13 rfl (by kernel_rfl) (by kernel_rfl) (by kernel_rfl) (fun _ _ _ h => h) (by rfl) ?_ ?_
          rotate_left
          · intro w9 h9; try dsimp only at h9
            go_split_ands
            go_simp; try with_reducible rfl
          try simp only [Act.put, List.setIfInBounds_toArray, List.set_cons_zero, List.set_cons_succ]
          refine restS_done (by kernel_rfl) (fun hS => ?_)
          have hG := hS
          clear hS
          go_wp2_with fail
          go_roundw
          case rel =>
            have hlen : (D ++ [((D.length : Int) + 1, tt + u, (q : Int), x + 1 + p, k1, a, b, x1, y)]).length = D.length + 1 := by simp
            have hbd : Hid (∀ z ∈ L.set q (x + 1 + p), 0 ≤ z ∧ z ≤ 2 * ((D ++ [((D.length : Int) + 1, tt + u, (q : Int), x + 1 + p, k1, a, b, x1, y)]).length : Int)) := fun z hz => by
              rw [hlen]
              rcases List.mem_or_eq_of_mem_set hz with h7 | h7
              · have h8 := HLb.out z h7; omega
              · omega
            exact ⟨k - 1, tt + u, D ++ [((D.length : Int) + 1, tt + u, (q : Int), x + 1 + p, k1, a, b, x1, y)], L.set q (x + 1 + p), a5, c5, congrArg (Value.int .i64) (by omega), by rw [hlen], by rw [hlen]; rfl, rfl, by omega, by omega, by omega, ListTo.step HLi.out (by omega) rfl HE.out rfl, (by show (L.set q _).length = 6; rw [List.length_set]; exact HL6.out), hbd, hBs, hFs, (by rw [hlen]; exact ho5), (by rw [hlen]; exact Hap5), hD, hG⟩
          case measure => simp [intOf]; omega
    · obtain rfl : k = 0 := by omega
      go_wp2_with fail
      refine bodyPost_ret (v := .slice ao' D.length cap') (by simp [results, Try.results115, go_sem, *]) rfl ⟨D, tt, ao', cap', rfl, by omega, HLi.out, hOw, hD, hG⟩

end Go.Proofs.Ytpfkfppooeikeaa
