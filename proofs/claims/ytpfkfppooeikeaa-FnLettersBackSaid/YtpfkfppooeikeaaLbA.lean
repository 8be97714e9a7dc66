/- Texts of the proof, merged: the last part. -/
import Derived.Test.YtpfkfppooeikeaaOkE
import Derived.WalkKit
import Derived.WalkSpells
import Derived.Deep.QuietTactic
import Derived.BigQuiet
import Derived.Deep.Light
import Derived.Lib.Hide
import Derived.Deep.RegionHeld3
import Derived.Test.YtpfkfppooeikeaaEntsA
import Derived.Test.YtpfkfppooeikeaaBx
import Derived.Test.YtpfkfppooeikeaaRoll
/- Walks of functions of the program, printed by a program of the prover. -/
namespace Go.Proofs.Ytpfkfppooeikeaa
open Go.ChangeShapes Go.WideShapes Go.ChangeAt Go.RowKit Go.Deep
set_option maxHeartbeats 1600000
set_option maxRecDepth 100000

def RetFeed9At (w : World) (g : Nat) (e : Ending) (w' : World) : Prop :=
  ∃ (bs la : Int) (D : List (Int × Int × Int × Int × Int × Int × Int × Int × Int)) (ao : Option Addr) (cap : Nat), e = .returned (.agg #[.int .i64 bs, .int .i64 la, .slice ao D.length cap]) ∧ feedOk bs la D = true ∧ D.length ≤ cap ∧ ReadA entryE w' ao D ∧ Dice w' g ∧ w.grownBy w' (some g) ∧ ∀ a, ao = some a → g < a.block
theorem cutAo_block {ao : Option Addr} {cap lo n : Nat} {a : Addr} (h : cutAo ao cap lo n = some a) : ∃ a0, ao = some a0 ∧ a0.block = a.block := by
  unfold cutAo at h
  split at h
  · exact ⟨a, h, rfl⟩
  · cases ao with
    | none => simp at h
    | some a0 =>
      simp only [Option.map_some, Option.some.injEq] at h
      subst h
      exact ⟨a0, rfl, by simp only [Addr.add]; split <;> rfl⟩
theorem c_w9FeedAt (g : Nat) (w : World) (hD : Dice w g) : Calls Try.prog 57 #[.pointer (some ⟨g, 0, none⟩)] w (RetFeed9At w g) := by
  obtain ⟨j0, hj, hj0, hj1, hj2⟩ := info_parts info_Entry
  have hlt := hD.lt
  have hBz := (Bx.new w [.int .i64 0, .int .i64 0, .slice none 0 0] 44).alloc (.cells #[] 70)
  have hFz := (Fx.new w [.int .i64 0, .int .i64 0, .slice none 0 0] 44).alloc (.cells #[] 70)
  have hG := grown_allocNew (World.grownBy_alloc w (.cells ([.int .i64 0, .int .i64 0, .slice none 0 0] : List Value).toArray 44) (some g)) (.cells #[] 70)
  replace hD := (hD.alloc (.cells ([.int .i64 0, .int .i64 0, .slice none 0 0] : List Value).toArray 44)).alloc (.cells #[] 70)
  go_enter Try.func57, Try.ntmps57
  go_wp2_with fail
  refine (c_w9List g 8 _ _ _ hD (by omega)).mono ?_
  rintro e wl ⟨D, tt, ao, cap, rfl, hDl, HLi, hOw, hDq, hgq⟩
  replace hD := hDq
  replace hBz := hBz.grown hgq (fun e => by have h7 := Option.some.inj e; omega)
  replace hFz := hFz.grown hgq (fun e => by have h7 := Option.some.inj e; omega)
  replace hG := hG.trans hgq
  clear hDq hgq
  have hcap : D.length ≤ cap := by
    rcases hOw.2.2.2 with ⟨h7, _⟩ | ⟨g9, cap9, cur, h7, _, _, hnc, _⟩
    · have h8 := (Value.slice.inj h7).2.1; omega
    · have h8 := (Value.slice.inj h7).2.2; omega
  have Hcap := Lib.hid hcap
  have HDl := Lib.hid hDl
  have HLi := Lib.hid HLi
  clear hcap hDl
  go_wp2_with fail
  refine (c_below g _ _ hD (by omega) (by omega)).mono ?_
  rintro e wm ⟨m, rfl, m0, m1, hDq, hgq⟩
  have hsq := hgq.size
  (first | simp only [World.size_setCell] at hsq | simp only [World.size_alloc] at hsq | skip)
  replace hD := hDq
  replace hG := hG.trans hgq
  replace hBz := hBz.grown hgq (fun e => by have h7 := Option.some.inj e; omega)
  replace hFz := hFz.grown hgq (fun e => by have h7 := Option.some.inj e; omega)
  replace hOw := hOw.kept hgq (fun k h1 h2 => by have h7 := (hOw.2.2.lt _ h1).1; have h8 := Option.some.inj h2; simp only [World.size_alloc] at h7; omega)
  clear hDq hgq
  obtain ⟨q, rfl⟩ : ∃ q : Nat, m = (q : Int) := ⟨m.toNat, by omega⟩
  go_wp2_with fail
  refine (c_below g _ _ hD (by omega) (by omega)).mono ?_
  rintro e wc ⟨c, rfl, c0, c1, hDq, hgq⟩
  have hsq := hgq.size
  (first | simp only [World.size_setCell] at hsq | simp only [World.size_alloc] at hsq | skip)
  replace hD := hDq
  replace hG := hG.trans hgq
  replace hBz := hBz.grown hgq (fun e => by have h7 := Option.some.inj e; omega)
  replace hFz := hFz.grown hgq (fun e => by have h7 := Option.some.inj e; omega)
  replace hOw := hOw.kept hgq (fun k h1 h2 => by have h7 := (hOw.2.2.lt _ h1).1; have h8 := Option.some.inj h2; simp only [World.size_alloc] at h7; omega)
  clear hDq hgq
  obtain ⟨r, hr⟩ : ∃ r : Nat, (q : Int) + c = (r : Int) := ⟨((q : Int) + c).toNat, by omega⟩
  have hqr : q ≤ r := by omega
  have hr8 : r ≤ 8 := by omega
  have hr3 : r - q ≤ 3 := by omega
  have hsl : ∀ W, (Instr.slice 42 (.slice ao D.length cap) (some (.int .i64 (q : Int))) (some (.int .i64 (r : Int))) none).run Try.prog W = .ok (.slice (cutAo ao cap q 9) (r - q) (cap - q)) W := fun W => run_cut_rows (P := Try.prog) (t := 42) Try.underlying42 hj 9 hj1 ao D.length cap q r hqr (by rw [HDl.out]; exact hr8) Hcap.out W
  have hw1 : IntKind.i64.wrap ((q : Int) + 1) = (q : Int) + 1 := IntWalk.i64_in _ (by omega)
  go_wp2_with fail
  replace hG := hG.andThen (grown_of_below (Below.refl _ _).drew) (fun j hj => by cases hj)
  refine restS_begin (fun W => w.grownBy W (some g)) (by kernel_rfl) hG ?_
  clear hG
  replace hBz := hBz.drew
  replace hFz := hFz.drew
  replace hD := hD.below (Below.refl _ _).drew
  replace hOw := hOw.below (Below.refl _ _).drew
  refine restS_take (v := ?_) 0 rfl (by kernel_rfl) (by kernel_rfl) (by kernel_rfl) (fun _ _ _ h => h) (by rfl) ?_ ?_
  rotate_left
  · intro w9 h9; try dsimp only at h9
    go_split_ands
    go_simp; try with_reducible rfl
  try simp only [Act.put, List.setIfInBounds_toArray, List.set_cons_zero, List.set_cons_succ]
  refine restS_take (v := ?_) 1 rfl (by kernel_rfl) (by kernel_rfl) (by kernel_rfl) (fun _ _ _ h => h) (by rfl) ?_ ?_
  rotate_left
  · intro w9 h9; try dsimp only at h9
    go_split_ands
    go_simp; try with_reducible rfl
  try simp only [Act.put, List.setIfInBounds_toArray, List.set_cons_zero, List.set_cons_succ]
  refine restS_take (v := ?_) 2 rfl (by kernel_rfl) (by kernel_rfl) (by kernel_rfl) (fun _ _ _ h => h) (by rfl) ?_ ?_
  rotate_left
  · intro w9 h9; try dsimp only at h9
    go_split_ands
    go_simp; try with_reducible rfl
  try simp only [Act.put, List.setIfInBounds_toArray, List.set_cons_zero, List.set_cons_succ]
  refine restS_take (v := ?_) 4 rfl (by kernel_rfl) (by kernel_rfl) (by kernel_rfl) (fun _ _ _ h => h) (by rfl) ?_ ?_
  rotate_left
  · intro w9 h9; try dsimp only at h9
    go_split_ands
    go_simp; try with_reducible rfl
  try simp only [Act.put, List.setIfInBounds_toArray, List.set_cons_zero, List.set_cons_succ]
  refine restS_take (v := ?_) 5 rfl (by kernel_rfl) (by kernel_rfl) (by kernel_rfl) (fun _ _ _ h => h) (by rfl) ?_ ?_
  rotate_left
  · intro w9 h9; try dsimp only at h9
    go_split_ands
    go_simp; try with_reducible rfl
  try simp only [Act.put, List.setIfInBounds_toArray, List.set_cons_zero, List.set_cons_succ]
  refine restS_take (v := ?_) 8 rfl (by kernel_rfl) (by kernel_rfl) (by kernel_rfl) (fun _ _ _ h => h) (by rfl) ?_ ?_
  rotate_left
  · intro w9 h9; try dsimp only at h9
    go_split_ands
    go_simp; try with_reducible rfl
  try simp only [Act.put, List.setIfInBounds_toArray, List.set_cons_zero, List.set_cons_succ]
  refine restS_take (v := ?_) 9 rfl (by kernel_rfl) (by kernel_rfl) (by kernel_rfl) (fun _ _ _ h => h) (by rfl) ?_ ?_
  rotate_left
  · intro w9 h9; try dsimp only at h9
    go_split_ands
    go_simp; try with_reducible rfl
  try simp only [Act.put, List.setIfInBounds_toArray, List.set_cons_zero, List.set_cons_succ]
  refine restS_take (v := ?_) 10 rfl (by kernel_rfl) (by kernel_rfl) (by kernel_rfl) (fun _ _ _ h => h) (by rfl) ?_ ?_
  rotate_left
  · intro w9 h9; try dsimp only at h9
    go_split_ands
    go_simp; try with_reducible rfl
  try simp only [Act.put, List.setIfInBounds_toArray, List.set_cons_zero, List.set_cons_succ]
  refine restS_take (v := ?_) 11 rfl (by kernel_rfl) (by kernel_rfl) (by kernel_rfl) (fun _ _ _ h => h) (by rfl) ?_ ?_
  rotate_left
  · intro w9 h9; try dsimp only at h9
    go_split_ands
    go_simp; try with_reducible rfl
  try simp only [Act.put, List.setIfInBounds_toArray, List.set_cons_zero, List.set_cons_succ]
  refine restS_alone 3 rfl (by kernel_rfl) (by rfl) (fun hS K hK => ?_)
  go_wp2_with fail
  refine (c_below g _ _ hD (by omega) (by omega)).mono ?_
  rintro e wb ⟨b, rfl, b0, b1, hDq, hgq⟩
  have hsq := hgq.size
  (first | simp only [World.size_setCell] at hsq | simp only [World.size_alloc] at hsq | skip)
  replace hD := hDq
  have hS2 := hS.trans hgq
  replace hBz := hBz.grown hgq (fun e => by have h7 := Option.some.inj e; omega)
  replace hFz := hFz.grown hgq (fun e => by have h7 := Option.some.inj e; omega)
  replace hOw := hOw.kept hgq (fun k h1 h2 => by have h7 := (hOw.2.2.lt _ h1).1; have h8 := Option.some.inj h2; simp only [World.size_alloc] at h7; omega)
  clear hDq hgq
  refine hK.out _ _ hS2 ?_
  try simp only [Act.put, List.setIfInBounds_toArray, List.set_cons_zero, List.set_cons_succ]
  clear hK K hS
  clear hS2
  refine restS_alone 6 rfl (by kernel_rfl) (by rfl) (fun hS K hK => ?_)
  go_wp2_with fail
  refine (c_below g _ _ hD (by omega) (by omega)).mono ?_
  rintro e wy ⟨y, rfl, y0, y1, hDq, hgq⟩
  have hsq := hgq.size
  (first | simp only [World.size_setCell] at hsq | simp only [World.size_alloc] at hsq | skip)
  replace hD := hDq
  have hS2 := hS.trans hgq
  replace hBz := hBz.grown hgq (fun e => by have h7 := Option.some.inj e; omega)
  replace hFz := hFz.grown hgq (fun e => by have h7 := Option.some.inj e; omega)
  replace hOw := hOw.kept hgq (fun k h1 h2 => by have h7 := (hOw.2.2.lt _ h1).1; have h8 := Option.some.inj h2; simp only [World.size_alloc] at h7; omega)
  clear hDq hgq
  have hw2 : IntKind.i64.wrap ((r : Int) + y) = (r : Int) + y := IntWalk.i64_in _ (by omega)
  refine hK.out _ _ hS2 ?_
  try simp only [Act.put, List.setIfInBounds_toArray, List.set_cons_zero, List.set_cons_succ]
  clear hK K hS
  clear hS2
  refine restS_take (v := ?_) 7 rfl (by kernel_rfl) (by kernel_rfl) (by kernel_rfl) (fun _ _ _ h => h) (by rfl) ?_ ?_
  rotate_left
  · intro w9 h9; try dsimp only at h9
    go_split_ands
    go_simp; try with_reducible rfl
  try simp only [Act.put, List.setIfInBounds_toArray, List.set_cons_zero, List.set_cons_succ]
  refine restS_take (v := ?_) 12 rfl (by kernel_rfl) (by kernel_rfl) (by kernel_rfl) (fun _ _ _ h => h) (by rfl) ?_ ?_
  rotate_left
  · intro w9 h9; try dsimp only at h9
    go_split_ands
    go_simp; try with_reducible rfl
  try simp only [Act.put, List.setIfInBounds_toArray, List.set_cons_zero, List.set_cons_succ]
  refine restS_alone 13 rfl (by kernel_rfl) (by rfl) (fun hS K hK => ?_)
  have q1 := hBz.2
  have q2 := hFz.2
  go_wp2_with fail
  refine hK.out _ _ (by repeat (first | with_reducible exact hS | (with_reducible refine grown_setNew ?_ _ _ ?_; rotate_left; focus (simp)))) ?_
  try simp only [Act.put, List.setIfInBounds_toArray, List.set_cons_zero, List.set_cons_succ]
  clear hK K
  refine restS_done (by kernel_rfl) (fun hS => ?_)
  have hlr : ((D.drop q).take (r - q)).length = r - q := by have h7 := HDl.out; simp; omega
  have Hlr := Lib.hid hlr
  clear hlr
  go_wp2_with fail
  refine bodyPost_ret (v := .agg #[.int .i64 b, .int .i64 ((r : Int) + y), .slice (cutAo ao cap q 9) (r - q) (cap - q)]) (by simp [results, Try.results57, go_sem, *]) rfl ⟨b, (r : Int) + y, (D.drop q).take (r - q), cutAo ao cap q 9, cap - q, by rw [Hlr.out], ListTo.feed HLi.out HDl.out hqr hr8 hr3 b0 (by omega) (by omega) (by omega), by have h7 := Hlr.out; have h8 := Hcap.out; have h9 := HDl.out; omega, ?_, ?_, ?_, fun a h6 => ?_⟩
  · refine read_cut_rows (E := entryE) (OwnA.read (ty := 70) (cap := cap) (lo := ((w.alloc (.cells ([.int .i64 0, .int .i64 0, .slice none 0 0] : List Value).toArray 44)).alloc (.cells #[] 70)).heap.size) ?_) cap q r (by rw [HDl.out]; exact hr8) Hcap.out
    repeat (first | with_reducible exact hOw | (with_reducible refine OwnA.set ?_ ?_; focus (first | (simp; done) | (simp; omega))))
  · repeat (first | with_reducible exact hD | (with_reducible refine Dice.set ?_ _ _ ?_; rotate_left; focus (simp; omega)))
  · repeat (first | with_reducible exact hS | (with_reducible refine grown_setNew ?_ _ _ ?_; rotate_left; focus (simp)))
  · obtain ⟨a0, h7, h8⟩ := cutAo_block h6
    subst h7
    have h9 := (hOw.2.2.lt a0.block rfl).1
    simp only [World.size_alloc] at h9
    omega

end Go.Proofs.Ytpfkfppooeikeaa
/- Walks of functions of the program, printed by a program of the prover. -/
namespace Go.Proofs.Ytpfkfppooeikeaa
open Go.ChangeShapes Go.WideShapes Go.ChangeAt Go.RowKit Go.Deep
set_option maxHeartbeats 1600000
set_option maxRecDepth 100000

def RetAskAt (w : World) (g : Nat) (e : Ending) (w' : World) : Prop :=
  ∃ c s k a b x y : Int, e = .returned (.agg #[.int .i64 c, .int .i64 s, .int .i64 k, .int .i64 a, .int .i64 b, .int .i64 x, .int .i64 y]) ∧ (askOk c s k a b x y = true ∧ s ≤ 100) ∧ Dice w' g ∧ w.grownBy w' (some g)
theorem c_w9AskAt (g : Nat) (w : World) (hD : Dice w g) : Calls Try.prog 84 #[.pointer (some ⟨g, 0, none⟩)] w (RetAskAt w g) := by
  have hlt := hD.lt
  have hBx := Bx.new w [.int .i64 0, .int .i64 0, .int .i64 0, .int .i64 0, .int .i64 0, .int .i64 0, .int .i64 0] 86
  have hFx := Fx.new w [.int .i64 0, .int .i64 0, .int .i64 0, .int .i64 0, .int .i64 0, .int .i64 0, .int .i64 0] 86
  have hG := World.grownBy_alloc w (.cells ([.int .i64 0, .int .i64 0, .int .i64 0, .int .i64 0, .int .i64 0, .int .i64 0, .int .i64 0] : List Value).toArray 86) (some g)
  replace hD := hD.alloc (.cells ([.int .i64 0, .int .i64 0, .int .i64 0, .int .i64 0, .int .i64 0, .int .i64 0, .int .i64 0] : List Value).toArray 86)
  go_enter Try.func84, Try.ntmps84
  go_wp2_with fail
  refine (c_below g _ _ hD (by omega) (by omega)).mono ?_
  rintro e wc ⟨c, rfl, c0, c1, hDq, hgq⟩
  replace hD := hDq
  replace hBx := hBx.grown hgq (fun e => by have h7 := Option.some.inj e; omega)
  replace hFx := hFx.grown hgq (fun e => by have h7 := Option.some.inj e; omega)
  replace hG := hG.trans hgq
  clear hDq hgq
  go_wp2_with fail
  refine (c_below g _ _ hD (by omega) (by omega)).mono ?_
  rintro e ws ⟨s, rfl, s0, s1, hDq, hgq⟩
  replace hD := hDq
  replace hBx := hBx.grown hgq (fun e => by have h7 := Option.some.inj e; omega)
  replace hFx := hFx.grown hgq (fun e => by have h7 := Option.some.inj e; omega)
  replace hG := hG.trans hgq
  clear hDq hgq
  go_wp2_with fail
  refine (c_w9Op g _ hD).mono ?_
  rintro e wo ⟨k, a, b, x, y, rfl, hO, hDq, hgq⟩
  replace hD := hDq
  replace hBx := hBx.grown hgq (fun e => by have h7 := Option.some.inj e; omega)
  replace hFx := hFx.grown hgq (fun e => by have h7 := Option.some.inj e; omega)
  replace hG := hG.trans hgq
  clear hDq hgq
  have q0 := hBx.2
  have q1 := hFx.2
  go_wp2_with fail
  refine bodyPost_ret (v := .agg #[.int .i64 (2 + c), .int .i64 (1 + s), .int .i64 k, .int .i64 a, .int .i64 b, .int .i64 x, .int .i64 y]) (by simp [results, Try.results84, go_sem, *]) rfl ⟨2 + c, 1 + s, k, a, b, x, y, rfl, ?_, ?_, ?_⟩
  · exact ⟨by simp [askOk, inB, hO]; omega, by omega⟩
  · repeat (first | with_reducible exact hD | (with_reducible refine Dice.set ?_ _ _ ?_; rotate_left; focus (simp; omega)))
  · repeat (first | with_reducible exact hG | (with_reducible refine grown_setNew ?_ _ _ ?_; rotate_left; focus (simp)))

end Go.Proofs.Ytpfkfppooeikeaa
/- Walks of functions of the program, printed by a program of the prover. -/
namespace Go.Proofs.Ytpfkfppooeikeaa
open Go.ChangeShapes Go.WideShapes Go.ChangeAt Go.RowKit Go.Deep
set_option maxHeartbeats 1600000
set_option maxRecDepth 100000

theorem wp_world {P : Program} {c : Code} {Q : Exit → Act → World → Prop} {a : Act} {W : World} (C : World → Prop) (hC : C W) (h : ∀ V, C V → Code.wp P c Q a V) : Code.wp P c Q a W := h W hC
theorem restS_world2 {P : Program} {ops : Array Oper} {Q : Exit → Act → World → Prop} {S : World → Prop} {fuel : Nat} {listed : Array Bool} {a : Act} {w : World} (C : World → Prop) (hC : C w) (h : ∀ V, C V → RestS P ops Q S fuel listed a V) : RestS P ops Q S fuel listed a w := h w hC
theorem ReadA.grownB {α : Type} {E : Enc α} {w w' : World} {ao : Option Addr} {l : List α} {g : Nat} (h : ReadA E w ao l) (hg : w.grownBy w' (some g)) (ha : ∀ a, ao = some a → g < a.block) : ReadA E w' ao l := by
  obtain ⟨h1, h2, h3⟩ := h
  refine ⟨h1, h2, ?_⟩
  rcases h3 with h3 | ⟨b, off, rfl, hlt, hc⟩
  · exact .inl h3
  · have hne := ha _ rfl
    exact .inr ⟨b, off, rfl, Nat.lt_of_lt_of_le hlt hg.size, fun i a hi j c hj => (World.cell?_of_block (a := ⟨b, off + i * E.n + j, none⟩) (hg.block b hlt (fun e => by have h7 := Option.some.inj e; simp only at hne; omega))).trans (hc i a hi j c hj)⟩
theorem c_w9Same (ao ao2 : Option Addr) (cap cap2 : Nat) (l : List (Int × Int × Int × Int × Int × Int × Int × Int × Int)) (w : World) (h : ReadA entryE w ao l) (h2 : ReadA entryE w ao2 l) :
    Calls Try.prog 88 #[.slice ao l.length cap, .slice ao2 l.length cap2] w fun e w' => e = .returned (.bool true) ∧ Below w.heap.size w w' := by
  have hm := h.2.1
  go_enter Try.func88, Try.ntmps88
  go_wp2_with fail
  go_loopw [5] (fun i wr => ∃ k : Nat, k ≤ l.length ∧ i = .int .i64 k ∧ Below w.heap.size w wr) (fun i _ => l.length - (intOf i).toNat)
  case atStart => exact ⟨0, Nat.zero_le _, rfl, Below.refl _ _⟩
  case round =>
    obtain ⟨k, hk, rfl, hbel⟩ := hrel
    by_cases hlt : k < l.length
    · have hp : (k : Int) < (l.length : Int) := by omega
      obtain ⟨b, off, rfl, hbl, hc⟩ := entry_at (h.below hbel) hlt
      obtain ⟨b2, off2, rfl, hbl2, hc2⟩ := entry_at (h2.below hbel) hlt
      have k0 := (hc k hlt).1
      have r0 := (hc2 k hlt).1
      have k1 := (hc k hlt).2.1
      have r1 := (hc2 k hlt).2.1
      have k2 := (hc k hlt).2.2.1
      have r2 := (hc2 k hlt).2.2.1
      have k3 := (hc k hlt).2.2.2.1
      have r3 := (hc2 k hlt).2.2.2.1
      have k4 := (hc k hlt).2.2.2.2.1
      have r4 := (hc2 k hlt).2.2.2.2.1
      have k5 := (hc k hlt).2.2.2.2.2.1
      have r5 := (hc2 k hlt).2.2.2.2.2.1
      have k6 := (hc k hlt).2.2.2.2.2.2.1
      have r6 := (hc2 k hlt).2.2.2.2.2.2.1
      have k7 := (hc k hlt).2.2.2.2.2.2.2.1
      have r7 := (hc2 k hlt).2.2.2.2.2.2.2.1
      have k8 := (hc k hlt).2.2.2.2.2.2.2.2
      have r8 := (hc2 k hlt).2.2.2.2.2.2.2.2
      generalize l[k] = d at k0 r0 k1 r1 k2 r2 k3 r3 k4 r4 k5 r5 k6 r6 k7 r7 k8 r8
      obtain ⟨x0, x1, x2, x3, x4, x5, x6, x7, x8⟩ := d
      simp only at k0 r0 k1 r1 k2 r2 k3 r3 k4 r4 k5 r5 k6 r6 k7 r7 k8 r8
      clear hc hc2
      go_wp2_with fail
      refine restS_begin (fun W => Below wr.heap.size wr W) (by kernel_rfl) (Below.refl _ _).drew ?_
      refine restS_take (v := ?_) 0 rfl (by kernel_rfl) (by kernel_rfl) (by kernel_rfl) (fun _ _ _ h => h) (by rfl) ?_ ?_
      rotate_left
      · intro w9 h9; try dsimp only at h9
        go_split_ands
        go_simp; try with_reducible rfl
      try simp only [Act.put, List.setIfInBounds_toArray, List.set_cons_zero, List.set_cons_succ]
      refine restS_take (v := ?_) 1 rfl (by kernel_rfl) (by kernel_rfl) (by kernel_rfl) (fun _ _ _ h => h) (by rfl) ?_ ?_
      rotate_left
      · intro w9 h9; try dsimp only at h9
        go_split_ands
        go_simp; try with_reducible rfl
      try simp only [Act.put, List.setIfInBounds_toArray, List.set_cons_zero, List.set_cons_succ]
      refine restS_take (v := ?_) 2 rfl (by kernel_rfl) (by kernel_rfl) (by kernel_rfl) (fun _ _ _ h => h) (by rfl) ?_ ?_
      rotate_left
      · intro w9 h9; try dsimp only at h9
        go_split_ands
        go_simp; try with_reducible rfl
      try simp only [Act.put, List.setIfInBounds_toArray, List.set_cons_zero, List.set_cons_succ]
      refine restS_take (v := ?_) 3 rfl (by kernel_rfl) (by kernel_rfl) (by kernel_rfl) (fun _ _ _ h => h) (by rfl) ?_ ?_
      rotate_left
      · intro w9 h9; try dsimp only at h9
        obtain ⟨x9, rfl⟩ := later_of h9
        go_simp; try with_reducible rfl
      try simp only [Act.put, List.setIfInBounds_toArray, List.set_cons_zero, List.set_cons_succ]
      refine restS_take (v := ?_) 4 rfl (by kernel_rfl) (by kernel_rfl) (by kernel_rfl) (fun _ _ _ h => h) (by rfl) ?_ ?_
      rotate_left
      · intro w9 h9; try dsimp only at h9
        go_split_ands
        go_simp; try with_reducible rfl
      try simp only [Act.put, List.setIfInBounds_toArray, List.set_cons_zero, List.set_cons_succ]
      refine restS_take (v := ?_) 5 rfl (by kernel_rfl) (by kernel_rfl) (by kernel_rfl) (fun _ _ _ h => h) (by rfl) ?_ ?_
      rotate_left
      · intro w9 h9; try dsimp only at h9
        go_split_ands
        go_simp; try with_reducible rfl
      try simp only [Act.put, List.setIfInBounds_toArray, List.set_cons_zero, List.set_cons_succ]
      refine restS_take (v := ?_) 6 rfl (by kernel_rfl) (by kernel_rfl) (by kernel_rfl) (fun _ _ _ h => h) (by rfl) ?_ ?_
      rotate_left
      · intro w9 h9; try dsimp only at h9
        go_split_ands
        go_simp; try with_reducible rfl
      try simp only [Act.put, List.setIfInBounds_toArray, List.set_cons_zero, List.set_cons_succ]
      refine restS_take (v := ?_) 7 rfl (by kernel_rfl) (by kernel_rfl) (by kernel_rfl) (fun _ _ _ h => h) (by rfl) ?_ ?_
      rotate_left
      · intro w9 h9; try dsimp only at h9
        obtain ⟨x9, rfl⟩ := later_of h9
        go_simp; try with_reducible rfl
      try simp only [Act.put, List.setIfInBounds_toArray, List.set_cons_zero, List.set_cons_succ]
      refine restS_take (v := ?_) 8 rfl (by kernel_rfl) (by kernel_rfl) (by kernel_rfl) (fun _ _ _ h => h) (by rfl) ?_ ?_
      rotate_left
      · intro w9 h9; try dsimp only at h9
        go_split_ands
        go_simp; try with_reducible rfl
      try simp only [Act.put, List.setIfInBounds_toArray, List.set_cons_zero, List.set_cons_succ]
      refine restS_done (by kernel_rfl) (fun hS => ?_)
      go_wp2_with fail
      go_roundw
      case rel => exact ⟨k + 1, by omega, by go_num, hbel.drew⟩
      case measure => simp [intOf]; omega
    · obtain rfl : k = l.length := by omega
      go_wp2_with fail
      go_ret
      exact ⟨rfl, hbel⟩

end Go.Proofs.Ytpfkfppooeikeaa
/- Walks of functions of the program, printed by a program of the prover. -/
namespace Go.Proofs.Ytpfkfppooeikeaa
open Go.ChangeShapes Go.WideShapes Go.ChangeAt Go.RowKit Go.Deep
set_option maxHeartbeats 1600000
set_option maxRecDepth 100000

theorem c_LettersBack (ao : Option Addr) (cap : Nat) (l : List Int) (w : World) (hB : BytesR w w.heap.size ao l) (hm : l.length ≤ 9223372036854775807) :
    Calls Try.prog 21 #[.slice ao l.length cap] w fun e w' => e = .returned (.bool true) ∧ Below w.heap.size w w' := by
  have HB := Lib.hid hB
  clear hB
  by_cases hb : 4096 < l.length
  · go_enter Try.func21, Try.ntmps21
    go_wp2_with fail
    refine (c_big ao cap l.length w hm).mono ?_
    rintro e w1 ⟨rfl, rfl⟩
    go_wp2_with fail
    go_ret
    exact ⟨rfl, Below.refl _ _⟩
  · have hb4 : decide (4096 < l.length) = false := by simpa using hb
    go_enter Try.func21, Try.ntmps21
    go_wp2_with fail
    refine (c_big ao cap l.length w hm).mono ?_
    rintro e w1 ⟨rfl, rfl⟩
    go_wp2_with fail
    refine (c_roll ao cap l 920 w HB.out (by omega)).mono ?_
    rintro e w1 ⟨rfl, hD, hb1⟩
    have hG : w1.grownBy w1 (some w.heap.size) := ⟨rfl, rfl, rfl, Nat.le_refl _, fun _ _ _ => rfl⟩
    have hs1 := hb1.size
    have hlt := hD.lt
    go_wp2_with fail
    refine (c_w9AskAt w.heap.size _ hD).mono ?_
    rintro e wa ⟨c, q, k, x, y, z, u, rfl, ⟨hOa, hq100⟩, hDq, hgq⟩
    have hz1 := hgq.size
    (first | simp only [World.size_alloc] at hz1 | skip)
    replace hD := hDq
    replace hG := hG.trans hgq
    clear hDq hgq
    obtain ⟨i1, i2, i3, i4, i5, i6, i7⟩ := askOk_in hOa
    have hra := row_ask hOa
    have hia : isAsk (rowAsk c q k x y z u) = true := hra.1.2.1
    have hpa := hra.2
    have hca : 2 ≤ c ∧ c ≤ 5 ∧ 1 ≤ q ∧ q ≤ 2000 := by
      have h7 := hOa
      simp only [askOk, inB, Bool.and_eq_true, decide_eq_true_eq] at h7
      omega
    clear hra
    have hBa := Bx.new wa [.int .i64 c, .int .i64 q, .int .i64 k, .int .i64 x, .int .i64 y, .int .i64 z, .int .i64 u] 86
    replace hD := hD.alloc (.cells ([.int .i64 c, .int .i64 q, .int .i64 k, .int .i64 x, .int .i64 y, .int .i64 z, .int .i64 u] : List Value).toArray 86)
    replace hG := grown_allocNew hG (.cells ([.int .i64 c, .int .i64 q, .int .i64 k, .int .i64 x, .int .i64 y, .int .i64 z, .int .i64 u] : List Value).toArray 86)
    have qa := hBa.2
    go_wp2_with fail
    clear qa
    refine (c_impl_AskRow c q k x y z u _ i1 i2 i3 i4 i5 i6 i7).mono ?_
    rintro e wb ⟨ao1, c1, rfl, ho, hbx⟩
    have hz2 := hbx.size
    (first | simp only [World.size_alloc] at hz2 | skip)
    replace hBa := hBa.below hbx
    replace hD := hD.below hbx
    replace hG := hG.andThen (grown_of_below hbx) (fun j hj => by cases hj)
    clear hbx
    go_wp2_with fail
    refine Calls.mono (by
      have h7 := c_impl_RowAsk ao1 c1 (rowAsk c q k x y z u) _ ho.read (own_cap ho)
      rw [hia, hpa] at h7
      exact h7) ?_
    rintro e wc ⟨rfl, hbx⟩
    clear ho
    have hz3 := hbx.size
    (first | simp only [World.size_alloc] at hz3 | skip)
    replace hBa := hBa.below hbx
    replace hD := hD.below hbx
    replace hG := hG.andThen (grown_of_below hbx) (fun j hj => by cases hj)
    clear hbx
    replace hBa := hBa.alloc (.cells ([.int .i64 c, .int .i64 q, .int .i64 k, .int .i64 x, .int .i64 y, .int .i64 z, .int .i64 u] : List Value).toArray 86)
    have hBb := Bx.new wc [.int .i64 c, .int .i64 q, .int .i64 k, .int .i64 x, .int .i64 y, .int .i64 z, .int .i64 u] 86
    replace hD := hD.alloc (.cells ([.int .i64 c, .int .i64 q, .int .i64 k, .int .i64 x, .int .i64 y, .int .i64 z, .int .i64 u] : List Value).toArray 86)
    replace hG := grown_allocNew hG (.cells ([.int .i64 c, .int .i64 q, .int .i64 k, .int .i64 x, .int .i64 y, .int .i64 z, .int .i64 u] : List Value).toArray 86)
    simp only [List.map_cons, List.map_nil] at *
    go_wp2_with fail
    refine (c_w9FeedAt w.heap.size _ hD).mono ?_
    rintro e wd ⟨bs, la, D, af, cf, rfl, hOf, hcf, hRf, hDq, hgq, hRfg⟩
    have hz4 := hgq.size
    (first | simp only [World.size_alloc] at hz4 | skip)
    replace hBa := hBa.grown hgq (fun e => by have h7 := Option.some.inj e; omega)
    replace hBb := hBb.grown hgq (fun e => by have h7 := Option.some.inj e; omega)
    replace hD := hDq
    replace hG := hG.trans hgq
    clear hDq hgq
    obtain ⟨f1, f2⟩ := feedOk_in hOf
    have hrf := row_feed hOf
    have hif : isFeed (rowFeed bs la D) = true := hrf.1.2.2.2.2.1
    have hhf := hrf.2.1
    have hof := hrf.2.2
    clear hrf
    replace hBa := hBa.alloc (.cells ([.int .i64 bs, .int .i64 la, .slice af D.length cf] : List Value).toArray 44)
    replace hBb := hBb.alloc (.cells ([.int .i64 bs, .int .i64 la, .slice af D.length cf] : List Value).toArray 44)
    have hBf := Bx.new wd [.int .i64 bs, .int .i64 la, .slice af D.length cf] 44
    replace hD := hD.alloc (.cells ([.int .i64 bs, .int .i64 la, .slice af D.length cf] : List Value).toArray 44)
    replace hG := grown_allocNew hG (.cells ([.int .i64 bs, .int .i64 la, .slice af D.length cf] : List Value).toArray 44)
    replace hRf := hRf.below ((Below.refl _ _).alloc (Nat.le_refl _) (.cells ([.int .i64 bs, .int .i64 la, .slice af D.length cf] : List Value).toArray 44))
    have qf := hBf.2
    go_wp2_with fail
    clear qf
    refine (c_impl_FeedRow bs la af cf D _ f1 f2 hRf).mono ?_
    rintro e we ⟨ao2, c2, rfl, ho, hbx⟩
    have hz5 := hbx.size
    (first | simp only [World.size_alloc] at hz5 | skip)
    replace hBa := hBa.below hbx
    replace hBb := hBb.below hbx
    replace hBf := hBf.below hbx
    replace hD := hD.below hbx
    replace hG := hG.andThen (grown_of_below hbx) (fun j hj => by cases hj)
    replace hRf := hRf.below hbx
    clear hbx
    go_wp2_with fail
    refine Calls.mono (by
      have h7 := c_impl_RowFeed ao2 c2 (rowFeed bs la D) _ ho.read (own_cap ho)
      unfold RetRowFeed at h7
      rw [hif, hhf, hof] at h7
      exact h7) ?_
    rintro e wf ⟨ag, cg, rfl, hoG, hbx⟩
    clear ho
    have hRg := hoG.read
    have hRgg : ∀ a, ag = some a → w.heap.size < a.block := fun a h9 => by
      subst h9
      have h7 := (hoG.2.2.lt a.block rfl).1
      (first | simp only [World.size_alloc] at h7 | skip)
      omega
    clear hoG
    have hz6 := hbx.size
    (first | simp only [World.size_alloc] at hz6 | skip)
    replace hBa := hBa.below hbx
    replace hBb := hBb.below hbx
    replace hBf := hBf.below hbx
    replace hD := hD.below hbx
    replace hG := hG.andThen (grown_of_below hbx) (fun j hj => by cases hj)
    replace hRf := hRf.below hbx
    clear hbx
    replace hBa := hBa.alloc (.cells ([.int .i64 bs, .int .i64 la, .slice ag D.length cg] : List Value).toArray 44)
    replace hBb := hBb.alloc (.cells ([.int .i64 bs, .int .i64 la, .slice ag D.length cg] : List Value).toArray 44)
    replace hBf := hBf.alloc (.cells ([.int .i64 bs, .int .i64 la, .slice ag D.length cg] : List Value).toArray 44)
    have hBg := Bx.new wf [.int .i64 bs, .int .i64 la, .slice ag D.length cg] 44
    replace hD := hD.alloc (.cells ([.int .i64 bs, .int .i64 la, .slice ag D.length cg] : List Value).toArray 44)
    replace hG := grown_allocNew hG (.cells ([.int .i64 bs, .int .i64 la, .slice ag D.length cg] : List Value).toArray 44)
    replace hRf := hRf.below ((Below.refl _ _).alloc (Nat.le_refl _) (.cells ([.int .i64 bs, .int .i64 la, .slice ag D.length cg] : List Value).toArray 44))
    replace hRg := hRg.below ((Below.refl _ _).alloc (Nat.le_refl _) (.cells ([.int .i64 bs, .int .i64 la, .slice ag D.length cg] : List Value).toArray 44))
    go_wp2_with fail
    refine (c_w9Jobs w.heap.size _ hD).mono ?_
    rintro e wg ⟨ji, jt, jh, je, ju, J, aj, cj, rfl, hOj, hOJ, hDq, hgq⟩
    have hz7 := hgq.size
    (first | simp only [World.size_alloc] at hz7 | skip)
    replace hBa := hBa.grown hgq (fun e => by have h7 := Option.some.inj e; omega)
    replace hBb := hBb.grown hgq (fun e => by have h7 := Option.some.inj e; omega)
    replace hBf := hBf.grown hgq (fun e => by have h7 := Option.some.inj e; omega)
    replace hBg := hBg.grown hgq (fun e => by have h7 := Option.some.inj e; omega)
    replace hD := hDq
    replace hG := hG.trans hgq
    replace hRf := hRf.grownB hgq hRfg
    replace hRg := hRg.grownB hgq hRgg
    clear hDq hgq
    have hRj := hOJ.read
    have hRjg : ∀ a, aj = some a → w.heap.size < a.block := fun a h9 => by
      subst h9
      have h7 := (hOJ.2.2.lt a.block rfl).1
      (first | simp only [World.size_alloc] at h7 | skip)
      omega
    obtain ⟨j1, j2, j3, j4, j5⟩ := jobsOk_in hOj
    have hrj := row_jobs hOj
    have hij : isJobs (rowJobs ji jt jh je ju J) = true := hrj.1.2.2.2.2.2.2.2.2.2
    have hhj := hrj.2.1
    have hoj := hrj.2.2
    clear hrj hOJ
    replace hBa := hBa.alloc (.cells ([.int .i64 ji, .int .i64 jt, .int .i64 jh, .int .i64 je, .int .i64 ju, .slice aj J.length cj] : List Value).toArray 99)
    replace hBb := hBb.alloc (.cells ([.int .i64 ji, .int .i64 jt, .int .i64 jh, .int .i64 je, .int .i64 ju, .slice aj J.length cj] : List Value).toArray 99)
    replace hBf := hBf.alloc (.cells ([.int .i64 ji, .int .i64 jt, .int .i64 jh, .int .i64 je, .int .i64 ju, .slice aj J.length cj] : List Value).toArray 99)
    replace hBg := hBg.alloc (.cells ([.int .i64 ji, .int .i64 jt, .int .i64 jh, .int .i64 je, .int .i64 ju, .slice aj J.length cj] : List Value).toArray 99)
    have hBj := Bx.new wg [.int .i64 ji, .int .i64 jt, .int .i64 jh, .int .i64 je, .int .i64 ju, .slice aj J.length cj] 99
    replace hD := hD.alloc (.cells ([.int .i64 ji, .int .i64 jt, .int .i64 jh, .int .i64 je, .int .i64 ju, .slice aj J.length cj] : List Value).toArray 99)
    replace hG := grown_allocNew hG (.cells ([.int .i64 ji, .int .i64 jt, .int .i64 jh, .int .i64 je, .int .i64 ju, .slice aj J.length cj] : List Value).toArray 99)
    replace hRf := hRf.below ((Below.refl _ _).alloc (Nat.le_refl _) (.cells ([.int .i64 ji, .int .i64 jt, .int .i64 jh, .int .i64 je, .int .i64 ju, .slice aj J.length cj] : List Value).toArray 99))
    replace hRg := hRg.below ((Below.refl _ _).alloc (Nat.le_refl _) (.cells ([.int .i64 ji, .int .i64 jt, .int .i64 jh, .int .i64 je, .int .i64 ju, .slice aj J.length cj] : List Value).toArray 99))
    replace hRj := hRj.below ((Below.refl _ _).alloc (Nat.le_refl _) (.cells ([.int .i64 ji, .int .i64 jt, .int .i64 jh, .int .i64 je, .int .i64 ju, .slice aj J.length cj] : List Value).toArray 99))
    have qj := hBj.2
    go_wp2_with fail
    clear qj
    refine (c_impl_JobsRow ji jt jh je ju aj cj J _ j1 j2 j3 j4 j5 hRj).mono ?_
    rintro e wh ⟨ao3, c3, rfl, ho, hbx⟩
    have hz8 := hbx.size
    (first | simp only [World.size_alloc] at hz8 | skip)
    replace hBa := hBa.below hbx
    replace hBb := hBb.below hbx
    replace hBf := hBf.below hbx
    replace hBg := hBg.below hbx
    replace hBj := hBj.below hbx
    replace hD := hD.below hbx
    replace hG := hG.andThen (grown_of_below hbx) (fun j hj => by cases hj)
    replace hRf := hRf.below hbx
    replace hRg := hRg.below hbx
    replace hRj := hRj.below hbx
    clear hbx
    go_wp2_with fail
    refine Calls.mono (by
      have h7 := c_impl_RowJobs ao3 c3 (rowJobs ji jt jh je ju J) _ ho.read (own_cap ho)
      unfold RetRowJobs at h7
      rw [hij, hhj, hoj] at h7
      exact h7) ?_
    rintro e wi ⟨ak, ck, rfl, hoK, hbx⟩
    clear ho
    have hRk := hoK.read
    have hRkg : ∀ a, ak = some a → w.heap.size < a.block := fun a h9 => by
      subst h9
      have h7 := (hoK.2.2.lt a.block rfl).1
      (first | simp only [World.size_alloc] at h7 | skip)
      omega
    clear hoK
    have hz9 := hbx.size
    (first | simp only [World.size_alloc] at hz9 | skip)
    replace hBa := hBa.below hbx
    replace hBb := hBb.below hbx
    replace hBf := hBf.below hbx
    replace hBg := hBg.below hbx
    replace hBj := hBj.below hbx
    replace hD := hD.below hbx
    replace hG := hG.andThen (grown_of_below hbx) (fun j hj => by cases hj)
    replace hRf := hRf.below hbx
    replace hRg := hRg.below hbx
    replace hRj := hRj.below hbx
    clear hbx
    replace hBa := hBa.alloc (.cells ([.int .i64 ji, .int .i64 jt, .int .i64 jh, .int .i64 je, .int .i64 ju, .slice ak J.length ck] : List Value).toArray 99)
    replace hBb := hBb.alloc (.cells ([.int .i64 ji, .int .i64 jt, .int .i64 jh, .int .i64 je, .int .i64 ju, .slice ak J.length ck] : List Value).toArray 99)
    replace hBf := hBf.alloc (.cells ([.int .i64 ji, .int .i64 jt, .int .i64 jh, .int .i64 je, .int .i64 ju, .slice ak J.length ck] : List Value).toArray 99)
    replace hBg := hBg.alloc (.cells ([.int .i64 ji, .int .i64 jt, .int .i64 jh, .int .i64 je, .int .i64 ju, .slice ak J.length ck] : List Value).toArray 99)
    replace hBj := hBj.alloc (.cells ([.int .i64 ji, .int .i64 jt, .int .i64 jh, .int .i64 je, .int .i64 ju, .slice ak J.length ck] : List Value).toArray 99)
    have hBk := Bx.new wi [.int .i64 ji, .int .i64 jt, .int .i64 jh, .int .i64 je, .int .i64 ju, .slice ak J.length ck] 99
    replace hD := hD.alloc (.cells ([.int .i64 ji, .int .i64 jt, .int .i64 jh, .int .i64 je, .int .i64 ju, .slice ak J.length ck] : List Value).toArray 99)
    replace hG := grown_allocNew hG (.cells ([.int .i64 ji, .int .i64 jt, .int .i64 jh, .int .i64 je, .int .i64 ju, .slice ak J.length ck] : List Value).toArray 99)
    replace hRf := hRf.below ((Below.refl _ _).alloc (Nat.le_refl _) (.cells ([.int .i64 ji, .int .i64 jt, .int .i64 jh, .int .i64 je, .int .i64 ju, .slice ak J.length ck] : List Value).toArray 99))
    replace hRg := hRg.below ((Below.refl _ _).alloc (Nat.le_refl _) (.cells ([.int .i64 ji, .int .i64 jt, .int .i64 jh, .int .i64 je, .int .i64 ju, .slice ak J.length ck] : List Value).toArray 99))
    replace hRj := hRj.below ((Below.refl _ _).alloc (Nat.le_refl _) (.cells ([.int .i64 ji, .int .i64 jt, .int .i64 jh, .int .i64 je, .int .i64 ju, .slice ak J.length ck] : List Value).toArray 99))
    replace hRk := hRk.below ((Below.refl _ _).alloc (Nat.le_refl _) (.cells ([.int .i64 ji, .int .i64 jt, .int .i64 jh, .int .i64 je, .int .i64 ju, .slice ak J.length ck] : List Value).toArray 99))
    have hwa : IntKind.i64.wrap (q + 1) = q + 1 := IntWalk.i64_in _ (by omega)
    go_wp2_with fail
    refine wp_world (fun V => Below w.heap.size w V ∧ Bx V wa.heap.size [.int .i64 c, .int .i64 q, .int .i64 k, .int .i64 x, .int .i64 y, .int .i64 z, .int .i64 u] ∧ Bx V wc.heap.size [.int .i64 c, .int .i64 q, .int .i64 k, .int .i64 x, .int .i64 y, .int .i64 z, .int .i64 u] ∧ Bx V wd.heap.size [.int .i64 bs, .int .i64 la, .slice af D.length cf] ∧ Bx V wf.heap.size [.int .i64 bs, .int .i64 la, .slice ag D.length cg] ∧ Bx V wg.heap.size [.int .i64 ji, .int .i64 jt, .int .i64 jh, .int .i64 je, .int .i64 ju, .slice aj J.length cj] ∧ Bx V wi.heap.size [.int .i64 ji, .int .i64 jt, .int .i64 jh, .int .i64 je, .int .i64 ju, .slice ak J.length ck] ∧ ReadA entryE V af D ∧ ReadA entryE V ag D ∧ ReadA dueE V aj J ∧ ReadA dueE V ak J ∧ Dice V w.heap.size) ⟨bl_grown hG hs1 (fun k hk => by have h7 := Option.some.inj hk; omega) hb1, hBa, hBb, hBf, hBg, hBj, hBk, hRf, hRg, hRj, hRk, hD⟩ ?_
    clear hBa hBb hBf hBg hBj hBk hRf hRg hRj hRk hD hG hb1
    rintro V ⟨hbV, hBa, hBb, hBf, hBg, hBj, hBk, hRf, hRg, hRj, hRk, hD⟩
    have hV0 := hD.lt
    have hD0 := hD.below (Below.refl _ _).drew
    refine restS_begin (fun W => V.grownBy W (some w.heap.size)) (by kernel_rfl) ⟨rfl, rfl, rfl, Nat.le_refl _, fun _ _ _ => rfl⟩ ?_
    refine restS_take (v := ?_) 0 rfl (by kernel_rfl) (by kernel_rfl) (by kernel_rfl) (fun _ _ _ h => h) (by rfl) ?_ ?_
    rotate_left
    · intro w9 h9; try dsimp only at h9
      go_split_ands
      go_simp; try with_reducible rfl
    try simp only [Act.put, List.setIfInBounds_toArray, List.set_cons_zero, List.set_cons_succ]
    refine restS_take (v := ?_) 1 rfl (by kernel_rfl) (by kernel_rfl) (by kernel_rfl) (fun _ _ _ h => h) (by rfl) ?_ ?_
    rotate_left
    · intro w9 h9; have q9 := (hBa.grown h9 (fun e => by have h7 := Option.some.inj e; omega)).2
      go_simp; try with_reducible rfl
    try simp only [Act.put, List.setIfInBounds_toArray, List.set_cons_zero, List.set_cons_succ]
    refine restS_take (v := ?_) 2 rfl (by kernel_rfl) (by kernel_rfl) (by kernel_rfl) (fun _ _ _ h => h) (by rfl) ?_ ?_
    rotate_left
    · intro w9 h9; try dsimp only at h9
      go_split_ands
      go_simp; try with_reducible rfl
    try simp only [Act.put, List.setIfInBounds_toArray, List.set_cons_zero, List.set_cons_succ]
    refine restS_take (v := ?_) 3 rfl (by kernel_rfl) (by kernel_rfl) (by kernel_rfl) (fun _ _ _ h => h) (by rfl) ?_ ?_
    rotate_left
    · intro w9 h9; have q9 := (hBa.grown h9 (fun e => by have h7 := Option.some.inj e; omega)).2
      go_simp; try with_reducible rfl
    try simp only [Act.put, List.setIfInBounds_toArray, List.set_cons_zero, List.set_cons_succ]
    refine restS_take (v := ?_) 4 rfl (by kernel_rfl) (by kernel_rfl) (by kernel_rfl) (fun _ _ _ h => h) (by rfl) ?_ ?_
    rotate_left
    · intro w9 h9; try dsimp only at h9
      go_split_ands
      go_simp; try with_reducible rfl
    try simp only [Act.put, List.setIfInBounds_toArray, List.set_cons_zero, List.set_cons_succ]
    refine restS_take (v := ?_) 5 rfl (by kernel_rfl) (by kernel_rfl) (by kernel_rfl) (fun _ _ _ h => h) (by rfl) ?_ ?_
    rotate_left
    · intro w9 h9; have q9 := (hBa.grown h9 (fun e => by have h7 := Option.some.inj e; omega)).2
      go_simp; try with_reducible rfl
    try simp only [Act.put, List.setIfInBounds_toArray, List.set_cons_zero, List.set_cons_succ]
    refine restS_take (v := ?_) 6 rfl (by kernel_rfl) (by kernel_rfl) (by kernel_rfl) (fun _ _ _ h => h) (by rfl) ?_ ?_
    rotate_left
    · intro w9 h9; try dsimp only at h9
      go_split_ands
      go_simp; try with_reducible rfl
    try simp only [Act.put, List.setIfInBounds_toArray, List.set_cons_zero, List.set_cons_succ]
    refine restS_take (v := ?_) 7 rfl (by kernel_rfl) (by kernel_rfl) (by kernel_rfl) (fun _ _ _ h => h) (by rfl) ?_ ?_
    rotate_left
    · intro w9 h9; try dsimp only at h9
      go_split_ands
      go_simp; try with_reducible rfl
    try simp only [Act.put, List.setIfInBounds_toArray, List.set_cons_zero, List.set_cons_succ]
    refine restS_two 8 11 rfl rfl (by kernel_rfl) (by rfl) (by rfl) (fun hS K hK => ?_) (fun hS K hK => ?_)
    · skip
      go_wp2_with fail
      refine (c_below w.heap.size _ _ hD0 (by omega) (by omega)).mono ?_
      rintro e wv ⟨v, rfl, v0, v1, hDq, hgq⟩
      have hSv := hS.trans hgq
      clear hDq hgq
      have hwb : IntKind.i64.wrap (q + 1 + v) = q + 1 + v := IntWalk.i64_in _ (by omega)
      refine hK.out _ _ hSv ?_
      try simp only [Act.put, List.setIfInBounds_toArray, List.set_cons_zero, List.set_cons_succ]
      clear hK K hS
      refine restS_take (v := ?_) 9 rfl (by kernel_rfl) (by kernel_rfl) (by kernel_rfl) (fun _ _ _ h => h) (by rfl) ?_ ?_
      rotate_left
      · intro w9 h9; try dsimp only at h9
        go_split_ands
        go_simp; try with_reducible rfl
      try simp only [Act.put, List.setIfInBounds_toArray, List.set_cons_zero, List.set_cons_succ]
      refine restS_take (v := ?_) 10 rfl (by kernel_rfl) (by kernel_rfl) (by kernel_rfl) (fun _ _ _ h => h) (by rfl) ?_ ?_
      rotate_left
      · intro w9 h9; try dsimp only at h9
        go_split_ands
        go_simp; try with_reducible rfl
      try simp only [Act.put, List.setIfInBounds_toArray, List.set_cons_zero, List.set_cons_succ]
      refine restS_alone 11 rfl (by kernel_rfl) (by rfl) (fun hS K hK => ?_)
      go_wp2_with fail
      refine hK.out _ _ (grown_allocNew hS _) ?_
      try simp only [Act.put, List.setIfInBounds_toArray, List.set_cons_zero, List.set_cons_succ]
      clear hK K hS
      refine restS_alone 12 rfl (by kernel_rfl) (by rfl) (fun hS K hK => ?_)
      go_wp2_with fail
      have hBm := Bx.new wv [.int .i64 c, .int .i64 q, .int .i64 0, .int .i64 (q + 1 + v)] 57
      replace hSv := grown_allocNew hSv (.cells ([.int .i64 c, .int .i64 q, .int .i64 0, .int .i64 (q + 1 + v)] : List Value).toArray 57)
      refine hK.out _ _ hSv ?_
      try simp only [Act.put, List.setIfInBounds_toArray, List.set_cons_zero, List.set_cons_succ]
      clear hK K hS
      refine restS_world2 (fun X => V.grownBy X (some w.heap.size) ∧ Bx X wv.heap.size [.int .i64 c, .int .i64 q, .int .i64 0, .int .i64 (q + 1 + v)]) ⟨hSv, hBm⟩ ?_
      clear hSv hBm
      rintro X ⟨hSv, hBm⟩
      refine restS_done (by kernel_rfl) (fun hS => ?_)
      replace hbV := bl_grown hSv hbV.size (fun k hk => by have h7 := Option.some.inj hk; omega) hbV
      replace hBa := hBa.grown hSv (fun e => by have h7 := Option.some.inj e; omega)
      replace hBb := hBb.grown hSv (fun e => by have h7 := Option.some.inj e; omega)
      replace hBf := hBf.grown hSv (fun e => by have h7 := Option.some.inj e; omega)
      replace hBg := hBg.grown hSv (fun e => by have h7 := Option.some.inj e; omega)
      replace hBj := hBj.grown hSv (fun e => by have h7 := Option.some.inj e; omega)
      replace hBk := hBk.grown hSv (fun e => by have h7 := Option.some.inj e; omega)
      replace hRf := hRf.grownB hSv hRfg
      replace hRg := hRg.grownB hSv hRgg
      replace hRj := hRj.grownB hSv hRjg
      replace hRk := hRk.grownB hSv hRkg
      clear hSv
      have qm := hBm.2
      go_wp2_with fail
      clear qm
      have hOk : ackOk c q 0 (q + 1 + v) = true := by
        have h9 : ((q + 1 + v) == q) = false := by simp; omega
        simp [ackOk, inB, h9]
        omega
      have hrk := row_ack hOk
      have hik : isAck (rowAck c q 0 (q + 1 + v)) = true := hrk.1.2.2.1
      have hpk := hrk.2
      clear hrk
      refine (c_impl_AckRow c q 0 (q + 1 + v) X i1 i2 (by unfold inI64; omega) (by unfold inI64; omega)).mono ?_
      rintro e wj ⟨ao4, c4, rfl, ho, hbx⟩
      replace hBa := hBa.below hbx
      replace hBb := hBb.below hbx
      replace hBf := hBf.below hbx
      replace hBg := hBg.below hbx
      replace hBj := hBj.below hbx
      replace hBk := hBk.below hbx
      replace hBm := hBm.below hbx
      replace hRf := hRf.below hbx
      replace hRg := hRg.below hbx
      replace hRj := hRj.below hbx
      replace hRk := hRk.below hbx
      replace hbV := bl_step hbx hbV.size hbV
      clear hbx
      go_wp2_with fail
      refine Calls.mono (by
        have h7 := c_impl_RowAck ao4 c4 (rowAck c q 0 (q + 1 + v)) _ ho.read (own_cap ho)
        rw [hik, hpk] at h7
        exact h7) ?_
      rintro e wk ⟨rfl, hbx⟩
      clear ho
      replace hBa := hBa.below hbx
      replace hBb := hBb.below hbx
      replace hBf := hBf.below hbx
      replace hBg := hBg.below hbx
      replace hBj := hBj.below hbx
      replace hBk := hBk.below hbx
      replace hBm := hBm.below hbx
      replace hRf := hRf.below hbx
      replace hRg := hRg.below hbx
      replace hRj := hRj.below hbx
      replace hRk := hRk.below hbx
      replace hbV := bl_step hbx hbV.size hbV
      clear hbx
      replace hBa := hBa.alloc (.cells ([.int .i64 c, .int .i64 q, .int .i64 0, .int .i64 (q + 1 + v)] : List Value).toArray 57)
      replace hBb := hBb.alloc (.cells ([.int .i64 c, .int .i64 q, .int .i64 0, .int .i64 (q + 1 + v)] : List Value).toArray 57)
      replace hBf := hBf.alloc (.cells ([.int .i64 c, .int .i64 q, .int .i64 0, .int .i64 (q + 1 + v)] : List Value).toArray 57)
      replace hBg := hBg.alloc (.cells ([.int .i64 c, .int .i64 q, .int .i64 0, .int .i64 (q + 1 + v)] : List Value).toArray 57)
      replace hBj := hBj.alloc (.cells ([.int .i64 c, .int .i64 q, .int .i64 0, .int .i64 (q + 1 + v)] : List Value).toArray 57)
      replace hBk := hBk.alloc (.cells ([.int .i64 c, .int .i64 q, .int .i64 0, .int .i64 (q + 1 + v)] : List Value).toArray 57)
      replace hBm := hBm.alloc (.cells ([.int .i64 c, .int .i64 q, .int .i64 0, .int .i64 (q + 1 + v)] : List Value).toArray 57)
      replace hRf := hRf.below ((Below.refl _ _).alloc (Nat.le_refl _) (.cells ([.int .i64 c, .int .i64 q, .int .i64 0, .int .i64 (q + 1 + v)] : List Value).toArray 57))
      replace hRg := hRg.below ((Below.refl _ _).alloc (Nat.le_refl _) (.cells ([.int .i64 c, .int .i64 q, .int .i64 0, .int .i64 (q + 1 + v)] : List Value).toArray 57))
      replace hRj := hRj.below ((Below.refl _ _).alloc (Nat.le_refl _) (.cells ([.int .i64 c, .int .i64 q, .int .i64 0, .int .i64 (q + 1 + v)] : List Value).toArray 57))
      replace hRk := hRk.below ((Below.refl _ _).alloc (Nat.le_refl _) (.cells ([.int .i64 c, .int .i64 q, .int .i64 0, .int .i64 (q + 1 + v)] : List Value).toArray 57))
      have hBn := Bx.new wk [.int .i64 c, .int .i64 q, .int .i64 0, .int .i64 (q + 1 + v)] 57
      replace hbV := hbV.alloc hbV.size (.cells ([.int .i64 c, .int .i64 q, .int .i64 0, .int .i64 (q + 1 + v)] : List Value).toArray 57)
      have qa := hBa.2
      have qb := hBb.2
      have qf := hBf.2
      have qg := hBg.2
      have qj := hBj.2
      have qk := hBk.2
      have qm := hBm.2
      have qn := hBn.2
      simp only [List.map_cons, List.map_nil]
      go_wp2_with fail
      clear qa qb qf qg qj qk qm qn
      refine (c_w9Same ag af cg cf D _ hRg hRf).mono ?_
      rintro e wl ⟨rfl, hbx⟩
      replace hBa := hBa.below hbx
      replace hBb := hBb.below hbx
      replace hBf := hBf.below hbx
      replace hBg := hBg.below hbx
      replace hBj := hBj.below hbx
      replace hBk := hBk.below hbx
      replace hBm := hBm.below hbx
      replace hBn := hBn.below hbx
      replace hRf := hRf.below hbx
      replace hRg := hRg.below hbx
      replace hRj := hRj.below hbx
      replace hRk := hRk.below hbx
      replace hbV := bl_step hbx hbV.size hbV
      clear hbx
      have qj := hBj.2
      have qk := hBk.2
      go_wp2_with fail
      clear qj qk
      go_loopw [16] (fun i wr => ∃ n : Nat, n ≤ J.length ∧ i = .int .i64 n ∧ Bx wr wg.heap.size [.int .i64 ji, .int .i64 jt, .int .i64 jh, .int .i64 je, .int .i64 ju, .slice aj J.length cj] ∧ Bx wr wi.heap.size [.int .i64 ji, .int .i64 jt, .int .i64 jh, .int .i64 je, .int .i64 ju, .slice ak J.length ck] ∧ ReadA dueE wr aj J ∧ ReadA dueE wr ak J ∧ Below w.heap.size w wr) (fun i _ => J.length - (intOf i).toNat)
      case atStart => exact ⟨0, Nat.zero_le _, rfl, hBj, hBk, hRj, hRk, hbV⟩
      case round =>
        clear hBj hBk hRj hRk hbV
        obtain ⟨n, hn, rfl, hBj, hBk, hRj, hRk, hbV⟩ := hrel
        have hJm := hRj.2.1
        by_cases hlt : n < J.length
        · have hp : (n : Int) < (J.length : Int) := by omega
          obtain ⟨b, off, hab, hbl, hc⟩ := due_at hRj hlt
          obtain ⟨b2, off2, hab2, hbl2, hc2⟩ := due_at hRk hlt
          have HRj := Lib.hid hRj
          have HRk := Lib.hid hRk
          have HBj := Lib.hid hBj
          have HBk := Lib.hid hBk
          have qj := hBj.2
          have qk := hBk.2
          have lj := hBj.1
          have lk := hBk.1
          clear hRj hRk hBj hBk
          subst hab
          subst hab2
          have k0 := (hc n hlt).1
          have k1 := (hc n hlt).2
          have r0 := (hc2 n hlt).1
          have r1 := (hc2 n hlt).2
          clear hc hc2
          generalize J[n] = d at k0 k1 r0 r1
          obtain ⟨d0, d1⟩ := d
          simp only at k0 k1 r0 r1
          go_wp2_with fail
          refine restS_begin (fun W => Below wr.heap.size wr W) (by kernel_rfl) (Below.refl _ _).drew ?_
          refine restS_take (v := ?_) 0 rfl (by kernel_rfl) (by kernel_rfl) (by kernel_rfl) (fun _ _ _ h => h) (by rfl) ?_ ?_
          rotate_left
          · intro w9 h9; try dsimp only at h9
            go_split_ands
            go_simp; try with_reducible rfl
          try simp only [Act.put, List.setIfInBounds_toArray, List.set_cons_zero, List.set_cons_succ]
          refine restS_take (v := ?_) 1 rfl (by kernel_rfl) (by kernel_rfl) (by kernel_rfl) (fun _ _ _ h => h) (by rfl) ?_ ?_
          rotate_left
          · intro w9 h9; try dsimp only at h9
            obtain ⟨x9, rfl⟩ := later_of h9
            go_simp; try with_reducible rfl
          try simp only [Act.put, List.setIfInBounds_toArray, List.set_cons_zero, List.set_cons_succ]
          refine restS_take (v := ?_) 2 rfl (by kernel_rfl) (by kernel_rfl) (by kernel_rfl) (fun _ _ _ h => h) (by rfl) ?_ ?_
          rotate_left
          · intro w9 h9; try dsimp only at h9
            go_split_ands
            go_simp; try with_reducible rfl
          try simp only [Act.put, List.setIfInBounds_toArray, List.set_cons_zero, List.set_cons_succ]
          refine restS_take (v := ?_) 3 rfl (by kernel_rfl) (by kernel_rfl) (by kernel_rfl) (fun _ _ _ h => h) (by rfl) ?_ ?_
          rotate_left
          · intro w9 h9; try dsimp only at h9
            go_split_ands
            go_simp; try with_reducible rfl
          try simp only [Act.put, List.setIfInBounds_toArray, List.set_cons_zero, List.set_cons_succ]
          refine restS_take (v := ?_) 4 rfl (by kernel_rfl) (by kernel_rfl) (by kernel_rfl) (fun _ _ _ h => h) (by rfl) ?_ ?_
          rotate_left
          · intro w9 h9; try dsimp only at h9
            obtain ⟨x9, rfl⟩ := later_of h9
            go_simp; try with_reducible rfl
          try simp only [Act.put, List.setIfInBounds_toArray, List.set_cons_zero, List.set_cons_succ]
          refine restS_take (v := ?_) 5 rfl (by kernel_rfl) (by kernel_rfl) (by kernel_rfl) (fun _ _ _ h => h) (by rfl) ?_ ?_
          rotate_left
          · intro w9 h9; try dsimp only at h9
            go_split_ands
            go_simp; try with_reducible rfl
          try simp only [Act.put, List.setIfInBounds_toArray, List.set_cons_zero, List.set_cons_succ]
          refine restS_take (v := ?_) 6 rfl (by kernel_rfl) (by kernel_rfl) (by kernel_rfl) (fun _ _ _ h => h) (by rfl) ?_ ?_
          rotate_left
          · intro w9 h9; try dsimp only at h9
            obtain ⟨x9, rfl⟩ := later_of h9
            go_simp; try with_reducible rfl
          try simp only [Act.put, List.setIfInBounds_toArray, List.set_cons_zero, List.set_cons_succ]
          refine restS_take (v := ?_) 7 rfl (by kernel_rfl) (by kernel_rfl) (by kernel_rfl) (fun _ _ _ h => h) (by rfl) ?_ ?_
          rotate_left
          · intro w9 h9; try dsimp only at h9
            go_split_ands
            go_simp; try with_reducible rfl
          try simp only [Act.put, List.setIfInBounds_toArray, List.set_cons_zero, List.set_cons_succ]
          refine restS_take (v := ?_) 8 rfl (by kernel_rfl) (by kernel_rfl) (by kernel_rfl) (fun _ _ _ h => h) (by rfl) ?_ ?_
          rotate_left
          · intro w9 h9; try dsimp only at h9
            go_split_ands
            go_simp; try with_reducible rfl
          try simp only [Act.put, List.setIfInBounds_toArray, List.set_cons_zero, List.set_cons_succ]
          refine restS_take (v := ?_) 9 rfl (by kernel_rfl) (by kernel_rfl) (by kernel_rfl) (fun _ _ _ h => h) (by rfl) ?_ ?_
          rotate_left
          · intro w9 h9; try dsimp only at h9
            obtain ⟨x9, rfl⟩ := later_of h9
            go_simp; try with_reducible rfl
          try simp only [Act.put, List.setIfInBounds_toArray, List.set_cons_zero, List.set_cons_succ]
          refine restS_take (v := ?_) 10 rfl (by kernel_rfl) (by kernel_rfl) (by kernel_rfl) (fun _ _ _ h => h) (by rfl) ?_ ?_
          rotate_left
          · intro w9 h9; try dsimp only at h9
            go_split_ands
            go_simp; try with_reducible rfl
          try simp only [Act.put, List.setIfInBounds_toArray, List.set_cons_zero, List.set_cons_succ]
          refine restS_done (by kernel_rfl) (fun hS => ?_)
          go_wp2_with fail
          go_roundw
          case rel => exact ⟨n + 1, by omega, by go_num, HBj.out.drew, HBk.out.drew, HRj.out.below (Below.refl _ _).drew, HRk.out.below (Below.refl _ _).drew, hbV.drew⟩
          case measure => simp [intOf]; omega
        · obtain rfl : n = J.length := by omega
          have qj := hBj.2
          have qk := hBk.2
          clear hBj hBk
          go_wp2_with fail
          go_ret
          exact ⟨rfl, hbV⟩
    · skip
      go_wp2_with fail
      have hBm := Bx.new V.drew [.int .i64 0, .int .i64 0, .int .i64 0, .int .i64 0] 57
      have hFm := Fx.new V.drew [.int .i64 0, .int .i64 0, .int .i64 0, .int .i64 0] 57
      simp only [World.size_drew] at hBm hFm
      refine hK.out _ _ (grown_allocNew hS _) ?_
      try simp only [Act.put, List.setIfInBounds_toArray, List.set_cons_zero, List.set_cons_succ]
      clear hK K hS
      refine restS_alone 8 rfl (by kernel_rfl) (by rfl) (fun hS K hK => ?_)
      go_wp2_with fail
      refine (c_below w.heap.size _ _ (hD0.alloc _) (by omega) (by omega)).mono ?_
      rintro e wv ⟨v, rfl, v0, v1, hDq, hgq⟩
      have hSv := hS.trans hgq
      replace hBm := hBm.grown hgq (fun e => by have h7 := Option.some.inj e; omega)
      replace hFm := hFm.grown hgq (fun e => by have h7 := Option.some.inj e; omega)
      clear hDq hgq
      have hwb : IntKind.i64.wrap (q + 1 + v) = q + 1 + v := IntWalk.i64_in _ (by omega)
      refine hK.out _ _ hSv ?_
      try simp only [Act.put, List.setIfInBounds_toArray, List.set_cons_zero, List.set_cons_succ]
      clear hK K hS
      refine restS_take (v := ?_) 9 rfl (by kernel_rfl) (by kernel_rfl) (by kernel_rfl) (fun _ _ _ h => h) (by rfl) ?_ ?_
      rotate_left
      · intro w9 h9; try dsimp only at h9
        go_split_ands
        go_simp; try with_reducible rfl
      try simp only [Act.put, List.setIfInBounds_toArray, List.set_cons_zero, List.set_cons_succ]
      refine restS_take (v := ?_) 10 rfl (by kernel_rfl) (by kernel_rfl) (by kernel_rfl) (fun _ _ _ h => h) (by rfl) ?_ ?_
      rotate_left
      · intro w9 h9; try dsimp only at h9
        go_split_ands
        go_simp; try with_reducible rfl
      try simp only [Act.put, List.setIfInBounds_toArray, List.set_cons_zero, List.set_cons_succ]
      refine restS_alone 12 rfl (by kernel_rfl) (by rfl) (fun hS K hK => ?_)
      have q0 := hBm.2
      have q1 := hFm.2
      go_wp2_with fail
      clear q0 q1
      replace hBm := hBm.set 0 (.int .i64 c) (by simp)
      replace hSv := grown_setNew hSv ⟨V.heap.size, 0, none⟩ (.int .i64 c) (Nat.le_refl _)
      replace hBm := hBm.set 1 (.int .i64 q) (by simp)
      replace hSv := grown_setNew hSv ⟨V.heap.size, 1, none⟩ (.int .i64 q) (Nat.le_refl _)
      replace hBm := hBm.set 2 (.int .i64 0) (by simp)
      replace hSv := grown_setNew hSv ⟨V.heap.size, 2, none⟩ (.int .i64 0) (Nat.le_refl _)
      replace hBm := hBm.set 3 (.int .i64 (q + 1 + v)) (by simp)
      replace hSv := grown_setNew hSv ⟨V.heap.size, 3, none⟩ (.int .i64 (q + 1 + v)) (Nat.le_refl _)
      simp only [List.set_cons_succ, List.set_cons_zero] at hBm
      refine hK.out _ _ hSv ?_
      try simp only [Act.put, List.setIfInBounds_toArray, List.set_cons_zero, List.set_cons_succ]
      clear hK K hS
      refine restS_world2 (fun X => V.grownBy X (some w.heap.size) ∧ Bx X V.heap.size [.int .i64 c, .int .i64 q, .int .i64 0, .int .i64 (q + 1 + v)]) ⟨hSv, hBm⟩ ?_
      clear hSv hBm
      rintro X ⟨hSv, hBm⟩
      refine restS_done (by kernel_rfl) (fun hS => ?_)
      replace hbV := bl_grown hSv hbV.size (fun k hk => by have h7 := Option.some.inj hk; omega) hbV
      replace hBa := hBa.grown hSv (fun e => by have h7 := Option.some.inj e; omega)
      replace hBb := hBb.grown hSv (fun e => by have h7 := Option.some.inj e; omega)
      replace hBf := hBf.grown hSv (fun e => by have h7 := Option.some.inj e; omega)
      replace hBg := hBg.grown hSv (fun e => by have h7 := Option.some.inj e; omega)
      replace hBj := hBj.grown hSv (fun e => by have h7 := Option.some.inj e; omega)
      replace hBk := hBk.grown hSv (fun e => by have h7 := Option.some.inj e; omega)
      replace hRf := hRf.grownB hSv hRfg
      replace hRg := hRg.grownB hSv hRgg
      replace hRj := hRj.grownB hSv hRjg
      replace hRk := hRk.grownB hSv hRkg
      clear hSv
      have qm := hBm.2
      go_wp2_with fail
      clear qm
      have hOk : ackOk c q 0 (q + 1 + v) = true := by
        have h9 : ((q + 1 + v) == q) = false := by simp; omega
        simp [ackOk, inB, h9]
        omega
      have hrk := row_ack hOk
      have hik : isAck (rowAck c q 0 (q + 1 + v)) = true := hrk.1.2.2.1
      have hpk := hrk.2
      clear hrk
      refine (c_impl_AckRow c q 0 (q + 1 + v) X i1 i2 (by unfold inI64; omega) (by unfold inI64; omega)).mono ?_
      rintro e wj ⟨ao4, c4, rfl, ho, hbx⟩
      replace hBa := hBa.below hbx
      replace hBb := hBb.below hbx
      replace hBf := hBf.below hbx
      replace hBg := hBg.below hbx
      replace hBj := hBj.below hbx
      replace hBk := hBk.below hbx
      replace hBm := hBm.below hbx
      replace hRf := hRf.below hbx
      replace hRg := hRg.below hbx
      replace hRj := hRj.below hbx
      replace hRk := hRk.below hbx
      replace hbV := bl_step hbx hbV.size hbV
      clear hbx
      go_wp2_with fail
      refine Calls.mono (by
        have h7 := c_impl_RowAck ao4 c4 (rowAck c q 0 (q + 1 + v)) _ ho.read (own_cap ho)
        rw [hik, hpk] at h7
        exact h7) ?_
      rintro e wk ⟨rfl, hbx⟩
      clear ho
      replace hBa := hBa.below hbx
      replace hBb := hBb.below hbx
      replace hBf := hBf.below hbx
      replace hBg := hBg.below hbx
      replace hBj := hBj.below hbx
      replace hBk := hBk.below hbx
      replace hBm := hBm.below hbx
      replace hRf := hRf.below hbx
      replace hRg := hRg.below hbx
      replace hRj := hRj.below hbx
      replace hRk := hRk.below hbx
      replace hbV := bl_step hbx hbV.size hbV
      clear hbx
      replace hBa := hBa.alloc (.cells ([.int .i64 c, .int .i64 q, .int .i64 0, .int .i64 (q + 1 + v)] : List Value).toArray 57)
      replace hBb := hBb.alloc (.cells ([.int .i64 c, .int .i64 q, .int .i64 0, .int .i64 (q + 1 + v)] : List Value).toArray 57)
      replace hBf := hBf.alloc (.cells ([.int .i64 c, .int .i64 q, .int .i64 0, .int .i64 (q + 1 + v)] : List Value).toArray 57)
      replace hBg := hBg.alloc (.cells ([.int .i64 c, .int .i64 q, .int .i64 0, .int .i64 (q + 1 + v)] : List Value).toArray 57)
      replace hBj := hBj.alloc (.cells ([.int .i64 c, .int .i64 q, .int .i64 0, .int .i64 (q + 1 + v)] : List Value).toArray 57)
      replace hBk := hBk.alloc (.cells ([.int .i64 c, .int .i64 q, .int .i64 0, .int .i64 (q + 1 + v)] : List Value).toArray 57)
      replace hBm := hBm.alloc (.cells ([.int .i64 c, .int .i64 q, .int .i64 0, .int .i64 (q + 1 + v)] : List Value).toArray 57)
      replace hRf := hRf.below ((Below.refl _ _).alloc (Nat.le_refl _) (.cells ([.int .i64 c, .int .i64 q, .int .i64 0, .int .i64 (q + 1 + v)] : List Value).toArray 57))
      replace hRg := hRg.below ((Below.refl _ _).alloc (Nat.le_refl _) (.cells ([.int .i64 c, .int .i64 q, .int .i64 0, .int .i64 (q + 1 + v)] : List Value).toArray 57))
      replace hRj := hRj.below ((Below.refl _ _).alloc (Nat.le_refl _) (.cells ([.int .i64 c, .int .i64 q, .int .i64 0, .int .i64 (q + 1 + v)] : List Value).toArray 57))
      replace hRk := hRk.below ((Below.refl _ _).alloc (Nat.le_refl _) (.cells ([.int .i64 c, .int .i64 q, .int .i64 0, .int .i64 (q + 1 + v)] : List Value).toArray 57))
      have hBn := Bx.new wk [.int .i64 c, .int .i64 q, .int .i64 0, .int .i64 (q + 1 + v)] 57
      replace hbV := hbV.alloc hbV.size (.cells ([.int .i64 c, .int .i64 q, .int .i64 0, .int .i64 (q + 1 + v)] : List Value).toArray 57)
      have qa := hBa.2
      have qb := hBb.2
      have qf := hBf.2
      have qg := hBg.2
      have qj := hBj.2
      have qk := hBk.2
      have qm := hBm.2
      have qn := hBn.2
      simp only [List.map_cons, List.map_nil]
      go_wp2_with fail
      clear qa qb qf qg qj qk qm qn
      refine (c_w9Same ag af cg cf D _ hRg hRf).mono ?_
      rintro e wl ⟨rfl, hbx⟩
      replace hBa := hBa.below hbx
      replace hBb := hBb.below hbx
      replace hBf := hBf.below hbx
      replace hBg := hBg.below hbx
      replace hBj := hBj.below hbx
      replace hBk := hBk.below hbx
      replace hBm := hBm.below hbx
      replace hBn := hBn.below hbx
      replace hRf := hRf.below hbx
      replace hRg := hRg.below hbx
      replace hRj := hRj.below hbx
      replace hRk := hRk.below hbx
      replace hbV := bl_step hbx hbV.size hbV
      clear hbx
      have qj := hBj.2
      have qk := hBk.2
      go_wp2_with fail
      clear qj qk
      go_loopw [16] (fun i wr => ∃ n : Nat, n ≤ J.length ∧ i = .int .i64 n ∧ Bx wr wg.heap.size [.int .i64 ji, .int .i64 jt, .int .i64 jh, .int .i64 je, .int .i64 ju, .slice aj J.length cj] ∧ Bx wr wi.heap.size [.int .i64 ji, .int .i64 jt, .int .i64 jh, .int .i64 je, .int .i64 ju, .slice ak J.length ck] ∧ ReadA dueE wr aj J ∧ ReadA dueE wr ak J ∧ Below w.heap.size w wr) (fun i _ => J.length - (intOf i).toNat)
      case atStart => exact ⟨0, Nat.zero_le _, rfl, hBj, hBk, hRj, hRk, hbV⟩
      case round =>
        clear hBj hBk hRj hRk hbV
        obtain ⟨n, hn, rfl, hBj, hBk, hRj, hRk, hbV⟩ := hrel
        have hJm := hRj.2.1
        by_cases hlt : n < J.length
        · have hp : (n : Int) < (J.length : Int) := by omega
          obtain ⟨b, off, hab, hbl, hc⟩ := due_at hRj hlt
          obtain ⟨b2, off2, hab2, hbl2, hc2⟩ := due_at hRk hlt
          have HRj := Lib.hid hRj
          have HRk := Lib.hid hRk
          have HBj := Lib.hid hBj
          have HBk := Lib.hid hBk
          have qj := hBj.2
          have qk := hBk.2
          have lj := hBj.1
          have lk := hBk.1
          clear hRj hRk hBj hBk
          subst hab
          subst hab2
          have k0 := (hc n hlt).1
          have k1 := (hc n hlt).2
          have r0 := (hc2 n hlt).1
          have r1 := (hc2 n hlt).2
          clear hc hc2
          generalize J[n] = d at k0 k1 r0 r1
          obtain ⟨d0, d1⟩ := d
          simp only at k0 k1 r0 r1
          go_wp2_with fail
          refine restS_begin (fun W => Below wr.heap.size wr W) (by kernel_rfl) (Below.refl _ _).drew ?_
          refine restS_take (v := ?_) 0 rfl (by kernel_rfl) (by kernel_rfl) (by kernel_rfl) (fun _ _ _ h => h) (by rfl) ?_ ?_
          rotate_left
          · intro w9 h9; try dsimp only at h9
            go_split_ands
            go_simp; try with_reducible rfl
          try simp only [Act.put, List.setIfInBounds_toArray, List.set_cons_zero, List.set_cons_succ]
          refine restS_take (v := ?_) 1 rfl (by kernel_rfl) (by kernel_rfl) (by kernel_rfl) (fun _ _ _ h => h) (by rfl) ?_ ?_
          rotate_left
          · intro w9 h9; try dsimp only at h9
            obtain ⟨x9, rfl⟩ := later_of h9
            go_simp; try with_reducible rfl
          try simp only [Act.put, List.setIfInBounds_toArray, List.set_cons_zero, List.set_cons_succ]
          refine restS_take (v := ?_) 2 rfl (by kernel_rfl) (by kernel_rfl) (by kernel_rfl) (fun _ _ _ h => h) (by rfl) ?_ ?_
          rotate_left
          · intro w9 h9; try dsimp only at h9
            go_split_ands
            go_simp; try with_reducible rfl
          try simp only [Act.put, List.setIfInBounds_toArray, List.set_cons_zero, List.set_cons_succ]
          refine restS_take (v := ?_) 3 rfl (by kernel_rfl) (by kernel_rfl) (by kernel_rfl) (fun _ _ _ h => h) (by rfl) ?_ ?_
          rotate_left
          · intro w9 h9; try dsimp only at h9
            go_split_ands
            go_simp; try with_reducible rfl
          try simp only [Act.put, List.setIfInBounds_toArray, List.set_cons_zero, List.set_cons_succ]
          refine restS_take (v := ?_) 4 rfl (by kernel_rfl) (by kernel_rfl) (by kernel_rfl) (fun _ _ _ h => h) (by rfl) ?_ ?_
          rotate_left
          · intro w9 h9; try dsimp only at h9
            obtain ⟨x9, rfl⟩ := later_of h9
            go_simp; try with_reducible rfl
          try simp only [Act.put, List.setIfInBounds_toArray, List.set_cons_zero, List.set_cons_succ]
          refine restS_take (v := ?_) 5 rfl (by kernel_rfl) (by kernel_rfl) (by kernel_rfl) (fun _ _ _ h => h) (by rfl) ?_ ?_
          rotate_left
          · intro w9 h9; try dsimp only at h9
            go_split_ands
            go_simp; try with_reducible rfl
          try simp only [Act.put, List.setIfInBounds_toArray, List.set_cons_zero, List.set_cons_succ]
          refine restS_take (v := ?_) 6 rfl (by kernel_rfl) (by kernel_rfl) (by kernel_rfl) (fun _ _ _ h => h) (by rfl) ?_ ?_
          rotate_left
          · intro w9 h9; try dsimp only at h9
            obtain ⟨x9, rfl⟩ := later_of h9
            go_simp; try with_reducible rfl
          try simp only [Act.put, List.setIfInBounds_toArray, List.set_cons_zero, List.set_cons_succ]
          refine restS_take (v := ?_) 7 rfl (by kernel_rfl) (by kernel_rfl) (by kernel_rfl) (fun _ _ _ h => h) (by rfl) ?_ ?_
          rotate_left
          · intro w9 h9; try dsimp only at h9
            go_split_ands
            go_simp; try with_reducible rfl
          try simp only [Act.put, List.setIfInBounds_toArray, List.set_cons_zero, List.set_cons_succ]
          refine restS_take (v := ?_) 8 rfl (by kernel_rfl) (by kernel_rfl) (by kernel_rfl) (fun _ _ _ h => h) (by rfl) ?_ ?_
          rotate_left
          · intro w9 h9; try dsimp only at h9
            go_split_ands
            go_simp; try with_reducible rfl
          try simp only [Act.put, List.setIfInBounds_toArray, List.set_cons_zero, List.set_cons_succ]
          refine restS_take (v := ?_) 9 rfl (by kernel_rfl) (by kernel_rfl) (by kernel_rfl) (fun _ _ _ h => h) (by rfl) ?_ ?_
          rotate_left
          · intro w9 h9; try dsimp only at h9
            obtain ⟨x9, rfl⟩ := later_of h9
            go_simp; try with_reducible rfl
          try simp only [Act.put, List.setIfInBounds_toArray, List.set_cons_zero, List.set_cons_succ]
          refine restS_take (v := ?_) 10 rfl (by kernel_rfl) (by kernel_rfl) (by kernel_rfl) (fun _ _ _ h => h) (by rfl) ?_ ?_
          rotate_left
          · intro w9 h9; try dsimp only at h9
            go_split_ands
            go_simp; try with_reducible rfl
          try simp only [Act.put, List.setIfInBounds_toArray, List.set_cons_zero, List.set_cons_succ]
          refine restS_done (by kernel_rfl) (fun hS => ?_)
          go_wp2_with fail
          go_roundw
          case rel => exact ⟨n + 1, by omega, by go_num, HBj.out.drew, HBk.out.drew, HRj.out.below (Below.refl _ _).drew, HRk.out.below (Below.refl _ _).drew, hbV.drew⟩
          case measure => simp [intOf]; omega
        · obtain rfl : n = J.length := by omega
          have qj := hBj.2
          have qk := hBk.2
          clear hBj hBk
          go_wp2_with fail
          go_ret
          exact ⟨rfl, hbV⟩

end Go.Proofs.Ytpfkfppooeikeaa
