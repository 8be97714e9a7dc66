/- Texts of the proof, merged: part 1. -/
import Derived.Test.YtpfkfppooeikeaaCut
import Derived.Test.YtpfkfppooeikeaaRollList
import Derived.Test.YtpfkfppooeikeaaFeedA
import Derived.WalkKit
import Derived.WalkSpells
import Derived.Deep.QuietTactic
import Derived.BigQuiet
import Derived.Deep.Light
import Derived.Lib.Hide
import Derived.Deep.RegionHeld3
import Derived.Test.YtpfkfppooeikeaaFeedE
import Derived.Test.YtpfkfppooeikeaaLeaf
import Derived.Test.YtpfkfppooeikeaaOne
import Derived.Test.YtpfkfppooeikeaaBx
import Derived.Test.YtpfkfppooeikeaaNums
import Derived.Test.YtpfkfppooeikeaaDec
import Derived.Test.YtpfkfppooeikeaaEnt
import Derived.Test.YtpfkfppooeikeaaFeedP
/- Slices of slices of rows. -/
namespace Go.Proofs.Ytpfkfppooeikeaa
open Go.RowKit
section
variable {α : Type} {E : Enc α}
def cutAo (ao : Option Addr) (cap lo n : Nat) : Option Addr := if cap = lo then ao else ao.map (·.add (lo * n))
theorem run_cut_rows {P : Program} {t e : TypeId} {i : TypeInfo} (hu : P.underlying t = some (.slice e)) (hi : P.info? e = some i) (n : Nat) (h1 : i.size = n) (ao : Option Addr) (len cap lo hi' : Nat) (hlo : lo ≤ hi') (hk : hi' ≤ len) (hc : len ≤ cap) (W : World) :
    (Instr.slice t (.slice ao len cap) (some (.int .i64 (lo : Int))) (some (.int .i64 (hi' : Int))) none).run P W = .ok (.slice (cutAo ao cap lo n) (hi' - lo) (cap - lo)) W := by
  have hb : (0 : Int) ≤ lo ∧ (lo : Int) ≤ hi' := by omega
  have hb2 : (0 : Int) ≤ hi' ∧ (hi' : Int) ≤ cap := by omega
  simp [Instr.slice, run_underlying hu, Instr.sliceBounds, Instr.sliceBound, sizeOf, typeInfo, hi, h1, asIntOf, hb, hb2, hlo, cutAo]
  omega
theorem run_low_rows {P : Program} {t e : TypeId} {i : TypeInfo} (hu : P.underlying t = some (.slice e)) (hi : P.info? e = some i) (n : Nat) (h1 : i.size = n) (ao : Option Addr) (len cap lo : Nat) (hlo : lo ≤ len) (W : World) :
    (Instr.slice t (.slice ao len cap) (some (.int .i64 (lo : Int))) none none).run P W = .ok (.slice (cutAo ao cap lo n) (len - lo) (cap - lo)) W := by
  have hb : (0 : Int) ≤ lo ∧ (lo : Int) ≤ len := by omega
  simp [Instr.slice, run_underlying hu, Instr.sliceBounds, Instr.sliceBound, sizeOf, typeInfo, hi, h1, asIntOf, hb, hlo, cutAo]
theorem read_cut_rows {w : World} {ao : Option Addr} {l : List α} (h : ReadA E w ao l) (cap lo hi' : Nat) (hk : hi' ≤ l.length) (hc : l.length ≤ cap) :
    ReadA E w (cutAo ao cap lo E.n) ((l.drop lo).take (hi' - lo)) := by
  refine ⟨fun x hx => h.1 x (List.mem_of_mem_drop (List.mem_of_mem_take hx)), by have := h.2.1; simp; omega, ?_⟩
  rcases h.2.2 with rfl | ⟨b, off, rfl, hlt, hcell⟩
  · exact .inl (by simp)
  · by_cases hck : cap = lo
    · exact .inl (by rw [List.drop_eq_nil_of_le (by omega)]; simp)
    · rw [cutAo, if_neg hck]
      refine .inr ⟨b, off + lo * E.n, by simp [Addr.add_lit], hlt, fun j x hx k c hkc => ?_⟩
      have hx2 : (l.drop lo)[j]? = some x := by
        rw [List.getElem?_take] at hx
        split at hx
        · exact hx
        · simp at hx
      rw [List.getElem?_drop] at hx2
      have h7 := hcell (lo + j) x hx2 k c hkc
      rwa [show off + (lo + j) * E.n + k = off + lo * E.n + j * E.n + k by rw [Nat.add_mul]; omega] at h7
end
end Go.Proofs.Ytpfkfppooeikeaa
/- Walks of functions of the program, printed by a program of the prover. -/
namespace Go.Proofs.Ytpfkfppooeikeaa
open Go.ChangeShapes Go.WideShapes Go.ChangeAt Go.RowKit Go.Deep
set_option maxHeartbeats 1600000
set_option maxRecDepth 100000

theorem ListTo.feed {D : List (Int × Int × Int × Int × Int × Int × Int × Int × Int)} {t : Int} (h : ListTo D t) (hl : D.length = 8) {m k : Nat} (hmk : m ≤ k) (hk : k ≤ 8) (hk3 : k - m ≤ 3) {bs la : Int} (b0 : 0 ≤ bs) (b1 : bs ≤ m) (l0 : (k : Int) ≤ la) (l1 : la ≤ 2000) :
    feedOk bs la ((D.drop m).take (k - m)) = true := by
  have hat0 : ∀ j, (hj : j < k - m) → ((D.drop m).take (k - m))[j]? = some (D[m + j]'(by omega)) := fun j hj => by
    rw [List.getElem?_take, if_pos hj, List.getElem?_drop, List.getElem?_eq_getElem]
  have hS : ((D.drop m).take (k - m)).length = k - m := by simp; omega
  generalize ((D.drop m).take (k - m)) = S at hS hat0
  have hat : ∀ i, (hi : i < S.length) → S[i] = D[m + i]'(by omega) := fun i hi => by
    have h7 := hat0 i (by omega)
    rw [List.getElem?_eq_getElem hi] at h7
    exact Option.some.inj h7
  simp only [feedOk, Bool.and_eq_true, decide_eq_true_eq, List.all_eq_true]
  refine ⟨by simp [inB]; omega, l1, by omega, entsOk_good (by omega) fun i hi => ?_, fun e he => ?_⟩
  · have h1 := h (m + i) (by omega)
    rw [entAt_eq hi, hat i hi]
    cases i with
    | zero => rw [entOk1_zero]; exact h1.2.1
    | succ j =>
      rw [entOk1_succ (by omega : j < S.length), hat j (by omega)]
      have h2 := h (m + j) (by omega)
      have h3 := h1.2.2.2 (m + j) (by omega)
      simp only [Bool.and_eq_true, decide_eq_true_eq, beq_iff_eq]
      exact ⟨h1.2.1, by have := h1.1; have := h2.1; omega, h3⟩
  · obtain ⟨i, hi, rfl⟩ := List.getElem_of_mem he
    have h1 := (h (m + i) (by omega)).1
    rw [hat i hi]
    simp only [feedIn, Bool.and_eq_true, decide_eq_true_eq]
    omega
def RetFeed9 (w : World) (g : Nat) (e : Ending) (w' : World) : Prop :=
  ∃ (bs la : Int) (D : List (Int × Int × Int × Int × Int × Int × Int × Int × Int)) (ao : Option Addr) (cap : Nat), e = .returned (.agg #[.int .i64 bs, .int .i64 la, .slice ao D.length cap]) ∧ feedOk bs la D = true ∧ D.length ≤ cap ∧ ReadA entryE w' ao D ∧ Dice w' g ∧ w.grownBy w' (some g)
theorem c_w9Feed (g : Nat) (w : World) (hD : Dice w g) : Calls Try.prog 57 #[.pointer (some ⟨g, 0, none⟩)] w (RetFeed9 w g) := by
  obtain ⟨j0, hj, hj0, hj1, hj2⟩ := info_parts info_Entry
  have hlt := hD.lt
  have hBz := (Bx.new w [.int .i64 0, .int .i64 0, .slice none 0 0] 44).alloc (.cells #[] 70)
  have hFz := (Fx.new w [.int .i64 0, .int .i64 0, .slice none 0 0] 44).alloc (.cells #[] 70)
  have hG := grown_allocNew (World.grownBy_alloc w (.cells ([.int .i64 0, .int .i64 0, .slice none 0 0] : List Value).toArray 44) (some g)) (.cells #[] 70)
  replace hD := (hD.alloc (.cells ([.int .i64 0, .int .i64 0, .slice none 0 0] : List Value).toArray 44)).alloc (.cells #[] 70)
  go_enter Try.func57, Try.ntmps57
  go_wp2_with fail
  refine (c_w9List g 8 _ _ _ hD (by omega)).mono ?_
  rintro e wl ⟨D, tt, ao, cap, rfl, hDl, HLi, hOw, hDq, hgq⟩
  replace hD := hDq
  replace hBz := hBz.grown hgq (fun e => by have h7 := Option.some.inj e; omega)
  replace hFz := hFz.grown hgq (fun e => by have h7 := Option.some.inj e; omega)
  replace hG := hG.trans hgq
  clear hDq hgq
  have hcap : D.length ≤ cap := by
    rcases hOw.2.2.2 with ⟨h7, _⟩ | ⟨g9, cap9, cur, h7, _, _, hnc, _⟩
    · have h8 := (Value.slice.inj h7).2.1; omega
    · have h8 := (Value.slice.inj h7).2.2; omega
  have Hcap := Lib.hid hcap
  have HDl := Lib.hid hDl
  have HLi := Lib.hid HLi
  clear hcap hDl
  go_wp2_with fail
  refine (c_below g _ _ hD (by omega) (by omega)).mono ?_
  rintro e wm ⟨m, rfl, m0, m1, hDq, hgq⟩
  have hsq := hgq.size
  (first | simp only [World.size_setCell] at hsq | simp only [World.size_alloc] at hsq | skip)
  replace hD := hDq
  replace hG := hG.trans hgq
  replace hBz := hBz.grown hgq (fun e => by have h7 := Option.some.inj e; omega)
  replace hFz := hFz.grown hgq (fun e => by have h7 := Option.some.inj e; omega)
  replace hOw := hOw.kept hgq (fun k h1 h2 => by have h7 := (hOw.2.2.lt _ h1).1; have h8 := Option.some.inj h2; simp only [World.size_alloc] at h7; omega)
  clear hDq hgq
  obtain ⟨q, rfl⟩ : ∃ q : Nat, m = (q : Int) := ⟨m.toNat, by omega⟩
  go_wp2_with fail
  refine (c_below g _ _ hD (by omega) (by omega)).mono ?_
  rintro e wc ⟨c, rfl, c0, c1, hDq, hgq⟩
  have hsq := hgq.size
  (first | simp only [World.size_setCell] at hsq | simp only [World.size_alloc] at hsq | skip)
  replace hD := hDq
  replace hG := hG.trans hgq
  replace hBz := hBz.grown hgq (fun e => by have h7 := Option.some.inj e; omega)
  replace hFz := hFz.grown hgq (fun e => by have h7 := Option.some.inj e; omega)
  replace hOw := hOw.kept hgq (fun k h1 h2 => by have h7 := (hOw.2.2.lt _ h1).1; have h8 := Option.some.inj h2; simp only [World.size_alloc] at h7; omega)
  clear hDq hgq
  obtain ⟨r, hr⟩ : ∃ r : Nat, (q : Int) + c = (r : Int) := ⟨((q : Int) + c).toNat, by omega⟩
  have hqr : q ≤ r := by omega
  have hr8 : r ≤ 8 := by omega
  have hr3 : r - q ≤ 3 := by omega
  have hsl : ∀ W, (Instr.slice 42 (.slice ao D.length cap) (some (.int .i64 (q : Int))) (some (.int .i64 (r : Int))) none).run Try.prog W = .ok (.slice (cutAo ao cap q 9) (r - q) (cap - q)) W := fun W => run_cut_rows (P := Try.prog) (t := 42) Try.underlying42 hj 9 hj1 ao D.length cap q r hqr (by rw [HDl.out]; exact hr8) Hcap.out W
  have hw1 : IntKind.i64.wrap ((q : Int) + 1) = (q : Int) + 1 := IntWalk.i64_in _ (by omega)
  go_wp2_with fail
  replace hG := hG.andThen (grown_of_below (Below.refl _ _).drew) (fun j hj => by cases hj)
  refine restS_begin (fun W => w.grownBy W (some g)) (by kernel_rfl) hG ?_
  clear hG
  replace hBz := hBz.drew
  replace hFz := hFz.drew
  replace hD := hD.below (Below.refl _ _).drew
  replace hOw := hOw.below (Below.refl _ _).drew
  refine restS_take (v := ?_) 0 rfl (by kernel_rfl) (by kernel_rfl) (by kernel_rfl) (fun _ _ _ h => h) (by rfl) ?_ ?_
  rotate_left
  · intro w9 h9; try dsimp only at h9
    go_split_ands
    go_simp; try with_reducible rfl
  try simp only [Act.put, List.setIfInBounds_toArray, List.set_cons_zero, List.set_cons_succ]
  refine restS_take (v := ?_) 1 rfl (by kernel_rfl) (by kernel_rfl) (by kernel_rfl) (fun _ _ _ h => h) (by rfl) ?_ ?_
  rotate_left
  · intro w9 h9; try dsimp only at h9
    go_split_ands
    go_simp; try with_reducible rfl
  try simp only [Act.put, List.setIfInBounds_toArray, List.set_cons_zero, List.set_cons_succ]
  refine restS_take (v := ?_) 2 rfl (by kernel_rfl) (by kernel_rfl) (by kernel_rfl) (fun _ _ _ h => h) (by rfl) ?_ ?_
  rotate_left
  · intro w9 h9; try dsimp only at h9
    go_split_ands
    go_simp; try with_reducible rfl
  try simp only [Act.put, List.setIfInBounds_toArray, List.set_cons_zero, List.set_cons_succ]
  refine restS_take (v := ?_) 4 rfl (by kernel_rfl) (by kernel_rfl) (by kernel_rfl) (fun _ _ _ h => h) (by rfl) ?_ ?_
  rotate_left
  · intro w9 h9; try dsimp only at h9
    go_split_ands
    go_simp; try with_reducible rfl
  try simp only [Act.put, List.setIfInBounds_toArray, List.set_cons_zero, List.set_cons_succ]
  refine restS_take (v := ?_) 5 rfl (by kernel_rfl) (by kernel_rfl) (by kernel_rfl) (fun _ _ _ h => h) (by rfl) ?_ ?_
  rotate_left
  · intro w9 h9; try dsimp only at h9
    go_split_ands
    go_simp; try with_reducible rfl
  try simp only [Act.put, List.setIfInBounds_toArray, List.set_cons_zero, List.set_cons_succ]
  refine restS_take (v := ?_) 8 rfl (by kernel_rfl) (by kernel_rfl) (by kernel_rfl) (fun _ _ _ h => h) (by rfl) ?_ ?_
  rotate_left
  · intro w9 h9; try dsimp only at h9
    go_split_ands
    go_simp; try with_reducible rfl
  try simp only [Act.put, List.setIfInBounds_toArray, List.set_cons_zero, List.set_cons_succ]
  refine restS_take (v := ?_) 9 rfl (by kernel_rfl) (by kernel_rfl) (by kernel_rfl) (fun _ _ _ h => h) (by rfl) ?_ ?_
  rotate_left
  · intro w9 h9; try dsimp only at h9
    go_split_ands
    go_simp; try with_reducible rfl
  try simp only [Act.put, List.setIfInBounds_toArray, List.set_cons_zero, List.set_cons_succ]
  refine restS_take (v := ?_) 10 rfl (by kernel_rfl) (by kernel_rfl) (by kernel_rfl) (fun _ _ _ h => h) (by rfl) ?_ ?_
  rotate_left
  · intro w9 h9; try dsimp only at h9
    go_split_ands
    go_simp; try with_reducible rfl
  try simp only [Act.put, List.setIfInBounds_toArray, List.set_cons_zero, List.set_cons_succ]
  refine restS_take (v := ?_) 11 rfl (by kernel_rfl) (by kernel_rfl) (by kernel_rfl) (fun _ _ _ h => h) (by rfl) ?_ ?_
  rotate_left
  · intro w9 h9; try dsimp only at h9
    go_split_ands
    go_simp; try with_reducible rfl
  try simp only [Act.put, List.setIfInBounds_toArray, List.set_cons_zero, List.set_cons_succ]
  refine restS_alone 3 rfl (by kernel_rfl) (by rfl) (fun hS K hK => ?_)
  go_wp2_with fail
  refine (c_below g _ _ hD (by omega) (by omega)).mono ?_
  rintro e wb ⟨b, rfl, b0, b1, hDq, hgq⟩
  have hsq := hgq.size
  (first | simp only [World.size_setCell] at hsq | simp only [World.size_alloc] at hsq | skip)
  replace hD := hDq
  have hS2 := hS.trans hgq
  replace hBz := hBz.grown hgq (fun e => by have h7 := Option.some.inj e; omega)
  replace hFz := hFz.grown hgq (fun e => by have h7 := Option.some.inj e; omega)
  replace hOw := hOw.kept hgq (fun k h1 h2 => by have h7 := (hOw.2.2.lt _ h1).1; have h8 := Option.some.inj h2; simp only [World.size_alloc] at h7; omega)
  clear hDq hgq
  refine hK.out _ _ hS2 ?_
  try simp only [Act.put, List.setIfInBounds_toArray, List.set_cons_zero, List.set_cons_succ]
  clear hK K hS
  clear hS2
  refine restS_alone 6 rfl (by kernel_rfl) (by rfl) (fun hS K hK => ?_)
  go_wp2_with fail
  refine (c_below g _ _ hD (by omega) (by omega)).mono ?_
  rintro e wy ⟨y, rfl, y0, y1, hDq, hgq⟩
  have hsq := hgq.size
  (first | simp only [World.size_setCell] at hsq | simp only [World.size_alloc] at hsq | skip)
  replace hD := hDq
  have hS2 := hS.trans hgq
  replace hBz := hBz.grown hgq (fun e => by have h7 := Option.some.inj e; omega)
  replace hFz := hFz.grown hgq (fun e => by have h7 := Option.some.inj e; omega)
  replace hOw := hOw.kept hgq (fun k h1 h2 => by have h7 := (hOw.2.2.lt _ h1).1; have h8 := Option.some.inj h2; simp only [World.size_alloc] at h7; omega)
  clear hDq hgq
  have hw2 : IntKind.i64.wrap ((r : Int) + y) = (r : Int) + y := IntWalk.i64_in _ (by omega)
  refine hK.out _ _ hS2 ?_
  try simp only [Act.put, List.setIfInBounds_toArray, List.set_cons_zero, List.set_cons_succ]
  clear hK K hS
  clear hS2
  refine restS_take (v := ?_) 7 rfl (by kernel_rfl) (by kernel_rfl) (by kernel_rfl) (fun _ _ _ h => h) (by rfl) ?_ ?_
  rotate_left
  · intro w9 h9; try dsimp only at h9
    go_split_ands
    go_simp; try with_reducible rfl
  try simp only [Act.put, List.setIfInBounds_toArray, List.set_cons_zero, List.set_cons_succ]
  refine restS_take (v := ?_) 12 rfl (by kernel_rfl) (by kernel_rfl) (by kernel_rfl) (fun _ _ _ h => h) (by rfl) ?_ ?_
  rotate_left
  · intro w9 h9; try dsimp only at h9
    go_split_ands
    go_simp; try with_reducible rfl
  try simp only [Act.put, List.setIfInBounds_toArray, List.set_cons_zero, List.set_cons_succ]
  refine restS_alone 13 rfl (by kernel_rfl) (by rfl) (fun hS K hK => ?_)
  have q1 := hBz.2
  have q2 := hFz.2
  go_wp2_with fail
  refine hK.out _ _ (by repeat (first | with_reducible exact hS | (with_reducible refine grown_setNew ?_ _ _ ?_; rotate_left; focus (simp)))) ?_
  try simp only [Act.put, List.setIfInBounds_toArray, List.set_cons_zero, List.set_cons_succ]
  clear hK K
  refine restS_done (by kernel_rfl) (fun hS => ?_)
  have hlr : ((D.drop q).take (r - q)).length = r - q := by have h7 := HDl.out; simp; omega
  have Hlr := Lib.hid hlr
  clear hlr
  go_wp2_with fail
  refine bodyPost_ret (v := .agg #[.int .i64 b, .int .i64 ((r : Int) + y), .slice (cutAo ao cap q 9) (r - q) (cap - q)]) (by simp [results, Try.results57, go_sem, *]) rfl ⟨b, (r : Int) + y, (D.drop q).take (r - q), cutAo ao cap q 9, cap - q, by rw [Hlr.out], ListTo.feed HLi.out HDl.out hqr hr8 hr3 b0 (by omega) (by omega) (by omega), by have h7 := Hlr.out; have h8 := Hcap.out; have h9 := HDl.out; omega, ?_, ?_, ?_⟩
  · refine read_cut_rows (E := entryE) (OwnA.read (ty := 70) (cap := cap) (lo := ((w.alloc (.cells ([.int .i64 0, .int .i64 0, .slice none 0 0] : List Value).toArray 44)).alloc (.cells #[] 70)).heap.size) ?_) cap q r (by rw [HDl.out]; exact hr8) Hcap.out
    repeat (first | with_reducible exact hOw | (with_reducible refine OwnA.set ?_ ?_; focus (first | (simp; done) | (simp; omega))))
  · repeat (first | with_reducible exact hD | (with_reducible refine Dice.set ?_ _ _ ?_; rotate_left; focus (simp; omega)))
  · repeat (first | with_reducible exact hS | (with_reducible refine grown_setNew ?_ _ _ ?_; rotate_left; focus (simp)))

end Go.Proofs.Ytpfkfppooeikeaa
/- Walks of functions of the program, printed by a program of the prover. -/
namespace Go.Proofs.Ytpfkfppooeikeaa
open Go.ChangeShapes Go.WideShapes Go.ChangeAt Go.RowKit Go.Deep
set_option maxHeartbeats 1600000
set_option maxRecDepth 100000

theorem c_w9Both (ao1 ao2 : Option Addr) (cap1 cap2 : Nat) (l m : List (Int × Int × Int × Int × Int × Int × Int × Int × Int)) (w : World) (h1 : ReadA entryE w ao1 l) (h2 : ReadA entryE w ao2 m) (hl : l.length ≤ 1000000) (hm : m.length ≤ 1000000) :
    Calls Try.prog 59 #[.slice ao1 l.length cap1, .slice ao2 m.length cap2] w (RetA entryE w 70 (l ++ m)) := by
  obtain ⟨j0, hj, hj0, hj1, hj2⟩ := info_parts info_Entry
  have hOw : OwnA entryE (w.alloc (.cells #[] 70)) w.heap.size 70 (.slice (some ⟨w.heap.size, 0, none⟩) 0 0) [] := ⟨by simp, by simp, by have h7 := World.ownsRow_lit (base := w.heap.size) (e := 70) (size := entryE.n) w #[] 0 (Nat.le_refl _) (by unfold maxLen; omega) (by simp); simpa using h7⟩
  have HOw := Lib.hid hOw
  have H1 := Lib.hid (h1.below ((Below.refl _ _).alloc (Nat.le_refl _) (.cells #[] 70)))
  have H2 := Lib.hid h2
  have Hlt := Lib.hid HOw.out.2.2.lt
  clear hOw h1 h2
  go_enter Try.func59, Try.ntmps59
  go_wp2_with (first | (at_builtin; refine wpList_append_rows (E := entryE) rfl _ _ _ rfl w.heap.size 70 j0 (.agg #[.int .i64 0, .int .i64 0, .int .i64 0, .int .i64 0, .int .i64 0, .int .i64 0, .int .i64 0, .int .i64 0, .int .i64 0]) 72 Try.underlying42 hj hj0 hj1 hj2 rfl (by omega) entry_one _ _ _ _ l m rfl Ho6.out rfl Hm6.out (by omega) hz6 (fun a7 c7 w7 ho7 hg7 => ?_)) | (at_builtin; refine wpList_append_rows (E := entryE) rfl _ _ _ rfl w.heap.size 70 j0 (.agg #[.int .i64 0, .int .i64 0, .int .i64 0, .int .i64 0, .int .i64 0, .int .i64 0, .int .i64 0, .int .i64 0, .int .i64 0]) 72 Try.underlying42 hj hj0 hj1 hj2 rfl (by omega) entry_one _ _ _ _ [] l rfl HOw.out rfl H1.out (by simp only [List.length_nil]; omega) (by simp) (fun a5 c5 w5 ho5 hg5 => ?_); have Ho6 : Hid (OwnA entryE w5 w.heap.size 70 (.slice a5 l.length c5) l) := ho5; have hb6 : Below w.heap.size w w5 := bl_grown hg5 (by simp) (fun k hk => (Hlt.out k hk).1) ((Below.refl _ _).alloc (Nat.le_refl _) _); have hz6 := hb6.size; have Hm6 := Lib.hid (H2.out.below hb6); have Hlt6 := Lib.hid Ho6.out.2.2.lt; clear ho5 hg5))
  go_ret
  exact ⟨a7, c7, (by rw [List.length_append]; rfl), ho7, bl_grown hg7 hz6 (fun k hk => (Hlt6.out k hk).1) hb6⟩

end Go.Proofs.Ytpfkfppooeikeaa
/- Walks of functions of the program, printed by a program of the prover. -/
namespace Go.Proofs.Ytpfkfppooeikeaa
open Go.ChangeShapes Go.WideShapes Go.ChangeAt Go.RowKit Go.Deep
set_option maxHeartbeats 800000
set_option maxRecDepth 100000

theorem feedOk_each {bs la : Int} {D : List (Int × Int × Int × Int × Int × Int × Int × Int × Int)} (h : feedOk bs la D = true) {j : Nat} (hj : j < D.length) : bs < D[j].1 ∧ D[j].1 ≤ la := by
  simp only [feedOk, Bool.and_eq_true, List.all_eq_true] at h
  have h1 := h.2.2.2.2 _ (List.getElem_mem hj)
  simpa [feedIn] using h1
theorem feedOk_low {bs : Int} {D : List (Int × Int × Int × Int × Int × Int × Int × Int × Int)} {j : Nat} (hj : j < D.length) {x : Int} (hx : D[j].1 = x) : feedOk bs (x - 1) D = false := by
  rw [← Bool.not_eq_true]
  intro h
  have := (feedOk_each h hj).2
  omega
theorem feedOk_high {la : Int} {D : List (Int × Int × Int × Int × Int × Int × Int × Int × Int)} (hj : 0 < D.length) {x : Int} (hx : D[0].1 = x) : feedOk x la D = false := by
  rw [← Bool.not_eq_true]
  intro h
  have := (feedOk_each h hj).1
  omega
theorem feedOk_ents {bs la : Int} {D : List (Int × Int × Int × Int × Int × Int × Int × Int × Int)} (h : feedOk bs la D = true) : entsOk D = true ∧ D.length ≤ 3 := by
  simp only [feedOk, Bool.and_eq_true, decide_eq_true_eq] at h
  exact ⟨h.2.2.2.1, h.2.2.1⟩
theorem feedOk_twice {bs la : Int} {D : List (Int × Int × Int × Int × Int × Int × Int × Int × Int)} (hj : 0 < D.length) : feedOk bs la (D ++ D.drop (D.length - 1)) = false := by
  rw [← Bool.not_eq_true]
  intro h
  have hl : (D ++ D.drop (D.length - 1)).length = D.length + 1 := by simp; omega
  have h1 := entsOk_at (feedOk_ents h).1 (k := D.length) (by omega)
  rw [entAt_eq (by omega)] at h1
  obtain ⟨q, hq⟩ : ∃ q, D.length = q + 1 := ⟨D.length - 1, by omega⟩
  have e1 : (D ++ D.drop (D.length - 1))[D.length]'(by omega) = D[q]'(by omega) := by
    rw [List.getElem_append_right (Nat.le_refl _), List.getElem_drop]
    congr 1
    omega
  have e2 : (D ++ D.drop (D.length - 1))[q]'(by omega) = D[q]'(by omega) := List.getElem_append_left (by omega)
  rw [e1] at h1
  have h2 : entOk1 (D ++ D.drop (D.length - 1)) (q + 1) (D[q]'(by omega)) = true := by rw [← hq]; exact h1
  rw [entOk1_succ (by omega), e2] at h2
  simp only [Bool.and_eq_true, beq_iff_eq] at h2
  have := h2.2.1
  omega
theorem len_rowFeed {bs la : Int} {D : List (Int × Int × Int × Int × Int × Int × Int × Int × Int)} (h : feedOk bs la D = true) : (rowFeed bs la D).length = 9 * D.length + 3 := by
  rw [rowFeed_t h, List.length_append, length_flat (c := 9) (fun _ => rfl)]
  simp only [List.length_cons, List.length_nil]
  omega

end Go.Proofs.Ytpfkfppooeikeaa
/- Walks of functions of the program, printed by a program of the prover. -/
namespace Go.Proofs.Ytpfkfppooeikeaa
open Go.RowKit
set_option maxHeartbeats 400000

def foundB (h v : Int) : Bool := inB h 0 1 && (inB v 0 999 && (h == 1 || v == 0))
theorem foundB_iff (h v : Int) : foundB h v = (h == 0 && v == 0 || h == 1 && inB v 0 999) := by
  rw [Bool.eq_iff_iff]; simp [foundB, inB]; omega
def valueOk (c s i h v : Int) : Bool := inB c 2 5 && (inB s 1 2000 && (inB i 0 2000 && foundB h v))
def ackOk (c s i l : Int) : Bool := inB c 2 5 && (inB s 1 2000 && (inB l s 2000 && (if l == s then inB i 1 2000 else i == 0)))
def askOk (c s k a b x y : Int) : Bool := inB c 2 5 && (inB s 1 2000 && opOk k a b x y)
theorem c_laws_toValue (c s i h v : Int) (w : World) : Calls Try.prog 50 #[.agg #[.int .i64 c, .int .i64 s, .int .i64 i, .int .i64 h, .int .i64 v]] w fun e w' => e = .returned (.agg #[.int .i64 c, .int .i64 s, .int .i64 i, .int .i64 h, .int .i64 v]) ∧ Below w.heap.size w w' := by
  go_enter Try.func50, Try.ntmps50
  go_wp2
  refine bodyPost_ret (v := .agg #[.int .i64 c, .int .i64 s, .int .i64 i, .int .i64 h, .int .i64 v]) (by simp [results, Try.results50, go_sem, *]) rfl ⟨rfl, ?_⟩
  (repeat (first | with_reducible exact Below.refl _ _ | ((with_reducible refine bl_alloc ?_ ?_); (focus (first | (simp; done) | (simp; omega) | omega))) | ((with_reducible refine bl_set ?_ ?_); (focus (first | (simp; done) | (simp; omega) | omega))) | ((with_reducible refine bl_later ?_ ?_); (focus (first | (simp; done) | (simp; omega) | omega))) | with_reducible refine bl_drew ?_ | with_reducible refine bl_drewN ?_ | ((with_reducible refine bl_step (by assumption) ?_ ?_); (focus (first | (simp; done) | (simp; omega) | omega)))))

theorem c_impl_foundOk (h v : Int) (w : World) : Calls Try.prog 203 #[.int .i64 h, .int .i64 v] w fun e w' => e = .returned (.bool (foundB h v)) ∧ w = w' := by
  go_enter Try.func203, Try.ntmps203
  go_wp2_with (first | (go_at_call 176; refine (c_impl_valueOk _ _).mono ?_; rintro e w' ⟨rfl, rfl⟩))
  all_goals go_ret
  all_goals (go_light; refine ⟨by rw [foundB_iff]; simp_all, rfl⟩)

theorem c_impl_ValueOk (c s i h v : Int) (w : World) : Calls Try.prog 202 #[.agg #[.int .i64 c, .int .i64 s, .int .i64 i, .int .i64 h, .int .i64 v]] w fun e w' => e = .returned (.bool (valueOk c s i h v)) ∧ Below w.heap.size w w' := by
  go_enter Try.func202, Try.ntmps202
  go_wp2_with (first | (go_at_call 170; refine (c_impl_AskerOk _ _).mono ?_; rintro e w' ⟨rfl, rfl⟩) | (go_at_call 171; refine (c_impl_seqOk _ _).mono ?_; rintro e w' ⟨rfl, rfl⟩) | (go_at_call 110; refine (c_impl_between _ _ _ _).mono ?_; rintro e w' ⟨rfl, rfl⟩) | (go_at_call 203; refine (c_impl_foundOk _ _ _).mono ?_; rintro e w' ⟨rfl, rfl⟩))
  all_goals go_ret
  all_goals (refine ⟨by simp [valueOk, *], ?_⟩; (repeat (first | with_reducible exact Below.refl _ _ | ((with_reducible refine bl_alloc ?_ ?_); (focus (first | (simp; done) | (simp; omega) | omega))) | ((with_reducible refine bl_set ?_ ?_); (focus (first | (simp; done) | (simp; omega) | omega))) | ((with_reducible refine bl_later ?_ ?_); (focus (first | (simp; done) | (simp; omega) | omega))) | with_reducible refine bl_drew ?_ | with_reducible refine bl_drewN ?_ | ((with_reducible refine bl_step (by assumption) ?_ ?_); (focus (first | (simp; done) | (simp; omega) | omega))))))

theorem c_spec_ValueOk (c s i h v : Int) (w : World) : Calls Try.prog 113 #[.agg #[.int .i64 c, .int .i64 s, .int .i64 i, .int .i64 h, .int .i64 v]] w fun e w' => e = .returned (.bool (valueOk c s i h v)) ∧ Below w.heap.size w w' := by
  go_enter Try.func113, Try.ntmps113
  go_wp2_with (first | (go_at_call 151; refine (c_spec_AskerOk _ _).mono ?_; rintro e w' ⟨rfl, rfl⟩) | (go_at_call 152; refine (c_spec_l7Seq _ _).mono ?_; rintro e w' ⟨rfl, rfl⟩) | (go_at_call 107; refine (c_spec_l1In _ _ _ _).mono ?_; rintro e w' ⟨rfl, rfl⟩) | (go_at_call 158; refine (c_spec_l7Value _ _).mono ?_; rintro e w' ⟨rfl, rfl⟩))
  all_goals go_ret
  all_goals (go_light; refine ⟨by simp_all [valueOk, foundB], ?_⟩; (repeat (first | with_reducible exact Below.refl _ _ | ((with_reducible refine bl_alloc ?_ ?_); (focus (first | (simp; done) | (simp; omega) | omega))) | ((with_reducible refine bl_set ?_ ?_); (focus (first | (simp; done) | (simp; omega) | omega))) | ((with_reducible refine bl_later ?_ ?_); (focus (first | (simp; done) | (simp; omega) | omega))) | with_reducible refine bl_drew ?_ | with_reducible refine bl_drewN ?_ | ((with_reducible refine bl_step (by assumption) ?_ ?_); (focus (first | (simp; done) | (simp; omega) | omega))))))

theorem c_laws_toAck (c s i l : Int) (w : World) : Calls Try.prog 53 #[.agg #[.int .i64 c, .int .i64 s, .int .i64 i, .int .i64 l]] w fun e w' => e = .returned (.agg #[.int .i64 c, .int .i64 s, .int .i64 i, .int .i64 l]) ∧ Below w.heap.size w w' := by
  go_enter Try.func53, Try.ntmps53
  go_wp2
  refine bodyPost_ret (v := .agg #[.int .i64 c, .int .i64 s, .int .i64 i, .int .i64 l]) (by simp [results, Try.results53, go_sem, *]) rfl ⟨rfl, ?_⟩
  (repeat (first | with_reducible exact Below.refl _ _ | ((with_reducible refine bl_alloc ?_ ?_); (focus (first | (simp; done) | (simp; omega) | omega))) | ((with_reducible refine bl_set ?_ ?_); (focus (first | (simp; done) | (simp; omega) | omega))) | ((with_reducible refine bl_later ?_ ?_); (focus (first | (simp; done) | (simp; omega) | omega))) | with_reducible refine bl_drew ?_ | with_reducible refine bl_drewN ?_ | ((with_reducible refine bl_step (by assumption) ?_ ?_); (focus (first | (simp; done) | (simp; omega) | omega)))))

theorem c_impl_AckOk (c s i l : Int) (w : World) : Calls Try.prog 206 #[.agg #[.int .i64 c, .int .i64 s, .int .i64 i, .int .i64 l]] w fun e w' => e = .returned (.bool (ackOk c s i l)) ∧ Below w.heap.size w w' := by
  go_enter Try.func206, Try.ntmps206
  go_wp2_with (first | (go_at_call 170; refine (c_impl_AskerOk _ _).mono ?_; rintro e w' ⟨rfl, rfl⟩) | (go_at_call 171; refine (c_impl_seqOk _ _).mono ?_; rintro e w' ⟨rfl, rfl⟩) | (go_at_call 110; refine (c_impl_between _ _ _ _).mono ?_; rintro e w' ⟨rfl, rfl⟩) | (go_at_call 168; refine (c_impl_indexOk _ _).mono ?_; rintro e w' ⟨rfl, rfl⟩))
  all_goals go_ret
  all_goals (go_light; refine ⟨by simp_all [ackOk], ?_⟩; (repeat (first | with_reducible exact Below.refl _ _ | ((with_reducible refine bl_alloc ?_ ?_); (focus (first | (simp; done) | (simp; omega) | omega))) | ((with_reducible refine bl_set ?_ ?_); (focus (first | (simp; done) | (simp; omega) | omega))) | ((with_reducible refine bl_later ?_ ?_); (focus (first | (simp; done) | (simp; omega) | omega))) | with_reducible refine bl_drew ?_ | with_reducible refine bl_drewN ?_ | ((with_reducible refine bl_step (by assumption) ?_ ?_); (focus (first | (simp; done) | (simp; omega) | omega))))))

theorem c_spec_AckOk (c s i l : Int) (w : World) : Calls Try.prog 114 #[.agg #[.int .i64 c, .int .i64 s, .int .i64 i, .int .i64 l]] w fun e w' => e = .returned (.bool (ackOk c s i l)) ∧ Below w.heap.size w w' := by
  go_enter Try.func114, Try.ntmps114
  go_wp2_with (first | (go_at_call 151; refine (c_spec_AskerOk _ _).mono ?_; rintro e w' ⟨rfl, rfl⟩) | (go_at_call 152; refine (c_spec_l7Seq _ _).mono ?_; rintro e w' ⟨rfl, rfl⟩) | (go_at_call 107; refine (c_spec_l1In _ _ _ _).mono ?_; rintro e w' ⟨rfl, rfl⟩) | (go_at_call 159; refine (c_spec_l7Index _ _).mono ?_; rintro e w' ⟨rfl, rfl⟩))
  all_goals go_ret
  all_goals (go_light; refine ⟨by (simp_all [ackOk, inB] <;> (try omega)), ?_⟩; (repeat (first | with_reducible exact Below.refl _ _ | ((with_reducible refine bl_alloc ?_ ?_); (focus (first | (simp; done) | (simp; omega) | omega))) | ((with_reducible refine bl_set ?_ ?_); (focus (first | (simp; done) | (simp; omega) | omega))) | ((with_reducible refine bl_later ?_ ?_); (focus (first | (simp; done) | (simp; omega) | omega))) | with_reducible refine bl_drew ?_ | with_reducible refine bl_drewN ?_ | ((with_reducible refine bl_step (by assumption) ?_ ?_); (focus (first | (simp; done) | (simp; omega) | omega))))))

theorem c_laws_toAsk (c s k a b x y : Int) (w : World) : Calls Try.prog 70 #[.agg #[.int .i64 c, .int .i64 s, .int .i64 k, .int .i64 a, .int .i64 b, .int .i64 x, .int .i64 y]] w fun e w' => e = .returned (.agg #[.int .i64 c, .int .i64 s, .int .i64 k, .int .i64 a, .int .i64 b, .int .i64 x, .int .i64 y]) ∧ Below w.heap.size w w' := by
  go_enter Try.func70, Try.ntmps70
  go_wp2_with (first | (go_at_call 125; refine (c_laws_toOp _ _ _ _ _ _).mono ?_; rintro e w' ⟨rfl, hb⟩; obtain ⟨hc, hf, hs⟩ := bcell hb; have hz := hb.size; (try simp at hz)))
  refine bodyPost_ret (v := .agg #[.int .i64 c, .int .i64 s, .int .i64 k, .int .i64 a, .int .i64 b, .int .i64 x, .int .i64 y]) (by simp [results, Try.results70, go_sem, *]) rfl ⟨rfl, ?_⟩
  (repeat (first | with_reducible exact Below.refl _ _ | ((with_reducible refine bl_alloc ?_ ?_); (focus (first | (simp; done) | (simp; omega) | omega))) | ((with_reducible refine bl_set ?_ ?_); (focus (first | (simp; done) | (simp; omega) | omega))) | ((with_reducible refine bl_later ?_ ?_); (focus (first | (simp; done) | (simp; omega) | omega))) | with_reducible refine bl_drew ?_ | with_reducible refine bl_drewN ?_ | ((with_reducible refine bl_step (by assumption) ?_ ?_); (focus (first | (simp; done) | (simp; omega) | omega)))))

theorem c_spec_AskOk (c s k a b x y : Int) (w : World) : Calls Try.prog 123 #[.agg #[.int .i64 c, .int .i64 s, .int .i64 k, .int .i64 a, .int .i64 b, .int .i64 x, .int .i64 y]] w fun e w' => e = .returned (.bool (askOk c s k a b x y)) ∧ Below w.heap.size w w' := by
  go_enter Try.func123, Try.ntmps123
  go_wp2_with (first | (go_at_call 151; refine (c_spec_AskerOk _ _).mono ?_; rintro e w' ⟨rfl, rfl⟩) | (go_at_call 152; refine (c_spec_l7Seq _ _).mono ?_; rintro e w' ⟨rfl, rfl⟩) | (go_at_call 160; refine (c_spec_OpOk _ _ _ _ _ _).mono ?_; rintro e w' ⟨rfl, hb⟩; obtain ⟨hc, hf, hs⟩ := bcell hb; have hz := hb.size; (try simp at hz)))
  all_goals go_ret
  all_goals (refine ⟨by simp [askOk, *], ?_⟩; (repeat (first | with_reducible exact Below.refl _ _ | ((with_reducible refine bl_alloc ?_ ?_); (focus (first | (simp; done) | (simp; omega) | omega))) | ((with_reducible refine bl_set ?_ ?_); (focus (first | (simp; done) | (simp; omega) | omega))) | ((with_reducible refine bl_later ?_ ?_); (focus (first | (simp; done) | (simp; omega) | omega))) | with_reducible refine bl_drew ?_ | with_reducible refine bl_drewN ?_ | ((with_reducible refine bl_step (by assumption) ?_ ?_); (focus (first | (simp; done) | (simp; omega) | omega))))))

theorem c_impl_AskOk (c s k a b x y : Int) (w : World) : Calls Try.prog 209 #[.agg #[.int .i64 c, .int .i64 s, .int .i64 k, .int .i64 a, .int .i64 b, .int .i64 x, .int .i64 y]] w fun e w' => e = .returned (.bool (askOk c s k a b x y)) ∧ Below w.heap.size w w' := by
  go_enter Try.func209, Try.ntmps209
  go_wp2_with (first | (go_at_call 170; refine (c_impl_AskerOk _ _).mono ?_; rintro e w' ⟨rfl, rfl⟩) | (go_at_call 171; refine (c_impl_seqOk _ _).mono ?_; rintro e w' ⟨rfl, rfl⟩) | (go_at_call 172; refine (c_impl_OpOk _ _ _ _ _ _).mono ?_; rintro e w' ⟨rfl, hb⟩; obtain ⟨hc, hf, hs⟩ := bcell hb; have hz := hb.size; (try simp at hz)))
  all_goals go_ret
  all_goals (refine ⟨by simp [askOk, *], ?_⟩; (repeat (first | with_reducible exact Below.refl _ _ | ((with_reducible refine bl_alloc ?_ ?_); (focus (first | (simp; done) | (simp; omega) | omega))) | ((with_reducible refine bl_set ?_ ?_); (focus (first | (simp; done) | (simp; omega) | omega))) | ((with_reducible refine bl_later ?_ ?_); (focus (first | (simp; done) | (simp; omega) | omega))) | with_reducible refine bl_drew ?_ | with_reducible refine bl_drewN ?_ | ((with_reducible refine bl_step (by assumption) ?_ ?_); (focus (first | (simp; done) | (simp; omega) | omega))))))

end Go.Proofs.Ytpfkfppooeikeaa
/- Walks of functions of the program, printed by a program of the prover. -/
namespace Go.Proofs.Ytpfkfppooeikeaa
open Go.RowKit
set_option maxHeartbeats 400000
set_option maxRecDepth 100000
def rowAsk (c s k a b x y : Int) : List Int := if askOk c s k a b x y then [1, c, s, k, a, b, x, y] else []
theorem rowAsk_t {c s k a b x y : Int} (h9 : (askOk c s k a b x y) = true) : rowAsk c s k a b x y = [1, c, s, k, a, b, x, y] := by unfold rowAsk; rw [h9]; rfl
theorem rowAsk_f {c s k a b x y : Int} (h9 : (askOk c s k a b x y) = false) : rowAsk c s k a b x y = [] := by unfold rowAsk; rw [h9]; rfl
theorem c_spec_AskRow (c s k a b x y : Int) (w : World) (yc : inI64 c) (ys : inI64 s) (yk : inI64 k) (ya : inI64 a) (yb : inI64 b) (yx : inI64 x) (yy : inI64 y) : Calls Try.prog 69 #[.agg #[.int .i64 c, .int .i64 s, .int .i64 k, .int .i64 a, .int .i64 b, .int .i64 x, .int .i64 y]] w (RetI w 2 (rowAsk c s k a b x y)) := by
  obtain ⟨i0, hi, hz0, hz1, hz2⟩ := info_parts info_int64
  cases hE : (askOk c s k a b x y)
  · rw [rowAsk_f hE]
    go_enter Try.func69, Try.ntmps69
    go_wp2_with (go_at_call 123; refine (c_spec_AskOk _ _ _ _ _ _ _ _).mono ?_; rintro e w1 ⟨rfl, hb⟩; have hz := hb.size; (try simp at hz))
    go_ret
    exact ⟨_, _, rfl, owns_empty w1 _ _ (by omega), by (repeat (first | with_reducible exact Below.refl _ _ | ((with_reducible refine bl_alloc ?_ ?_); (focus (first | (simp; done) | (simp; omega) | omega))) | ((with_reducible refine bl_set ?_ ?_); (focus (first | (simp; done) | (simp; omega) | omega))) | ((with_reducible refine bl_later ?_ ?_); (focus (first | (simp; done) | (simp; omega) | omega))) | with_reducible refine bl_drew ?_ | with_reducible refine bl_drewN ?_ | ((with_reducible refine bl_step (by assumption) ?_ ?_); (focus (first | (simp; done) | (simp; omega) | omega)))))⟩
  · rw [rowAsk_t hE]
    have hO : opOk k a b x y = true := by simp only [askOk, Bool.and_eq_true] at hE; exact hE.2.2
    have k1 : inI64 1 := by simp [inI64]
    go_enter Try.func69, Try.ntmps69
    go_wp2_with (go_at_call 123; refine (c_spec_AskOk _ _ _ _ _ _ _ _).mono ?_; rintro e w1 ⟨rfl, hb⟩; have hBx := (Bx.new w [.int .i64 c, .int .i64 s, .int .i64 k, .int .i64 a, .int .i64 b, .int .i64 x, .int .i64 y] 86).below hb; have hbw : Below w.heap.size w w1 := bl_step hb (by simp) ((Below.refl _ _).alloc (Nat.le_refl _) _); clear hb)
    refine restS_begin (SB w w.heap.size [.int .i64 c, .int .i64 s, .int .i64 k, .int .i64 a, .int .i64 b, .int .i64 x, .int .i64 y]) (by kernel_rfl) (SB.start hbw hBx) ?_
    clear hBx hbw
    refine restS_take (v := ?_) 0 rfl (by kernel_rfl) (by kernel_rfl) (by kernel_rfl) (fun _ _ _ h => h) (by rfl) ?_ ?_
    rotate_left
    · intro w9 h9; try dsimp only at h9
      go_split_ands
      go_simp; try with_reducible rfl
    try simp only [Act.put, List.setIfInBounds_toArray, List.set_cons_zero, List.set_cons_succ]
    refine restS_take (v := ?_) 1 rfl (by kernel_rfl) (by kernel_rfl) (by kernel_rfl) (fun _ _ _ h => h) (by rfl) ?_ ?_
    rotate_left
    · intro w9 h9; obtain ⟨h8, h9⟩ := h9; obtain ⟨x9, rfl⟩ := later_of h8; replace h9 := h9.2; clear h8
      go_simp; try with_reducible rfl
    try simp only [Act.put, List.setIfInBounds_toArray, List.set_cons_zero, List.set_cons_succ]
    refine restS_take (v := ?_) 2 rfl (by kernel_rfl) (by kernel_rfl) (by kernel_rfl) (fun _ _ _ h => h) (by rfl) ?_ ?_
    rotate_left
    · intro w9 h9; try dsimp only at h9
      go_split_ands
      go_simp; try with_reducible rfl
    try simp only [Act.put, List.setIfInBounds_toArray, List.set_cons_zero, List.set_cons_succ]
    refine restS_take (v := ?_) 3 rfl (by kernel_rfl) (by kernel_rfl) (by kernel_rfl) (fun _ _ _ h => h) (by rfl) ?_ ?_
    rotate_left
    · intro w9 h9; obtain ⟨h8, h9⟩ := h9; obtain ⟨x9, rfl⟩ := later_of h8; replace h9 := h9.2; clear h8
      go_simp; try with_reducible rfl
    try simp only [Act.put, List.setIfInBounds_toArray, List.set_cons_zero, List.set_cons_succ]
    refine restS_take (v := ?_) 5 rfl (by kernel_rfl) (by kernel_rfl) (by kernel_rfl) (fun _ _ _ h => h) (by rfl) ?_ ?_
    rotate_left
    · intro w9 h9; try dsimp only at h9
      go_split_ands
      go_simp; try with_reducible rfl
    try simp only [Act.put, List.setIfInBounds_toArray, List.set_cons_zero, List.set_cons_succ]
    refine restS_take (v := ?_) 6 rfl (by kernel_rfl) (by kernel_rfl) (by kernel_rfl) (fun _ _ _ h => h) (by rfl) ?_ ?_
    rotate_left
    · intro w9 h9; obtain ⟨h8, h9⟩ := h9; obtain ⟨x9, rfl⟩ := later_of h8; replace h9 := h9.2; clear h8
      go_simp; try with_reducible rfl
    try simp only [Act.put, List.setIfInBounds_toArray, List.set_cons_zero, List.set_cons_succ]
    refine restS_two 4 7 rfl rfl (by kernel_rfl) (by rfl) (by rfl) (fun hS K hK => ?_) (fun hS K hK => ?_)
    · skip
      go_wp2_with fail
      have hOw := SB.lit hS (w.heap.size + 1) 2 [1, c, s] (by omega) (by simp) (by simp [k1, yc, ys])
      have hSx := SB.alloc hS (.cells (([1, c, s] : List Int).map (Value.int .i64)).toArray 2)
      refine hK.out _ _ hSx ?_
      try simp only [Act.put, List.setIfInBounds_toArray, List.set_cons_zero, List.set_cons_succ]
      clear hK K hS hSx
      refine restS_alone 7 rfl (by kernel_rfl) (by rfl) (fun hS K hK => ?_)
      go_wp2_with fail
      refine (c_spec_OpRow k a b x y _ yk ya yb yx yy hO).mono ?_
      rintro e w4 ⟨a4, c4, rfl, ho4, hb4⟩
      go_wp2_with fail
      have hSx := SB.step hS hb4
      have hRd := ho4.read
      replace hOw := hOw.below hb4
      refine hK.out _ _ hSx ?_
      try simp only [Act.put, List.setIfInBounds_toArray, List.set_cons_zero, List.set_cons_succ]
      clear hK K hS hSx
      refine restS_alone 8 rfl (by kernel_rfl) (by rfl) (fun hS K hK => ?_)
      have hlt := hOw.2.2.lt
      refine wpo_append_ints _ _ _ (by rfl) (w.heap.size + 1) 2 i0 Try.underlying22 hi hz0 hz1 hz2 _ _ _ _ [1, c, s] [k, a, b, x, y] (by rfl) hOw (by rfl) hRd (by simp) (by have h7 := hS.2.1; omega) (fun a5 c5 w5 ho5 hg5 => ?_)
      have hSx := SB.grown hS hg5 (fun k hk => Nat.le_trans (by simp) (hlt k hk).1) (fun e => by have h7 := (hlt _ e).1; omega)
      clear hlt
      refine hK.out _ _ hSx ?_
      try simp only [Act.put, List.setIfInBounds_toArray, List.set_cons_zero, List.set_cons_succ]
      clear hK K hS hSx
      refine restS_take (v := ?_) 9 rfl (by kernel_rfl) (by kernel_rfl) (by kernel_rfl) (fun _ _ _ h => h) (by rfl) ?_ ?_
      rotate_left
      · intro w9 h9; try dsimp only at h9
        go_split_ands
        go_simp; try with_reducible rfl
      try simp only [Act.put, List.setIfInBounds_toArray, List.set_cons_zero, List.set_cons_succ]
      refine restS_done (by kernel_rfl) (fun hS => ?_)
      go_wp2_with fail
      go_ret
      refine ⟨a5, c5, ?_, ho5.lower (by simp), hS.1⟩
      rfl
    · skip
      go_wp2_with fail
      refine (c_spec_OpRow k a b x y _ yk ya yb yx yy hO).mono ?_
      rintro e w4 ⟨a4, c4, rfl, ho4, hb4⟩
      go_wp2_with fail
      have hSx := SB.step hS hb4
      have hRd := ho4.read
      refine hK.out _ _ hSx ?_
      try simp only [Act.put, List.setIfInBounds_toArray, List.set_cons_zero, List.set_cons_succ]
      clear hK K hS hSx
      refine restS_alone 4 rfl (by kernel_rfl) (by rfl) (fun hS K hK => ?_)
      go_wp2_with fail
      have hOw := SB.lit hS (w.heap.size + 1) 2 [1, c, s] (by omega) (by simp) (by simp [k1, yc, ys])
      have hSx := SB.alloc hS (.cells (([1, c, s] : List Int).map (Value.int .i64)).toArray 2)
      replace hRd := hRd.below ((Below.refl _ _).alloc (Nat.le_refl _) (.cells (([1, c, s] : List Int).map (Value.int .i64)).toArray 2))
      refine hK.out _ _ hSx ?_
      try simp only [Act.put, List.setIfInBounds_toArray, List.set_cons_zero, List.set_cons_succ]
      clear hK K hS hSx
      refine restS_alone 8 rfl (by kernel_rfl) (by rfl) (fun hS K hK => ?_)
      have hlt := hOw.2.2.lt
      refine wpo_append_ints _ _ _ (by rfl) (w.heap.size + 1) 2 i0 Try.underlying22 hi hz0 hz1 hz2 _ _ _ _ [1, c, s] [k, a, b, x, y] (by rfl) hOw (by rfl) hRd (by simp) (by have h7 := hS.2.1; omega) (fun a5 c5 w5 ho5 hg5 => ?_)
      have hSx := SB.grown hS hg5 (fun k hk => Nat.le_trans (by simp) (hlt k hk).1) (fun e => by have h7 := (hlt _ e).1; omega)
      clear hlt
      refine hK.out _ _ hSx ?_
      try simp only [Act.put, List.setIfInBounds_toArray, List.set_cons_zero, List.set_cons_succ]
      clear hK K hS hSx
      refine restS_take (v := ?_) 9 rfl (by kernel_rfl) (by kernel_rfl) (by kernel_rfl) (fun _ _ _ h => h) (by rfl) ?_ ?_
      rotate_left
      · intro w9 h9; try dsimp only at h9
        go_split_ands
        go_simp; try with_reducible rfl
      try simp only [Act.put, List.setIfInBounds_toArray, List.set_cons_zero, List.set_cons_succ]
      refine restS_done (by kernel_rfl) (fun hS => ?_)
      go_wp2_with fail
      go_ret
      refine ⟨a5, c5, ?_, ho5.lower (by simp), hS.1⟩
      rfl
theorem c_kindOf_Ask (c s k a b x y : Int) (w : World) : Calls Try.prog 149 #[.iface 86 (.agg #[.int .i64 c, .int .i64 s, .int .i64 k, .int .i64 a, .int .i64 b, .int .i64 x, .int .i64 y])] w fun e w' => e = .returned (.int .i64 1) ∧ w = w' := by

  have yes := @ta_yes Try.prog 86 179 _ Try.underlying86 rfl
  go_enter Try.func149, Try.ntmps149
  go_wp2
  go_ret
  exact ⟨rfl, rfl⟩
theorem c_Ask_valid (c s k a b x y : Int) (w : World) : Calls Try.prog 208 #[.agg #[.int .i64 c, .int .i64 s, .int .i64 k, .int .i64 a, .int .i64 b, .int .i64 x, .int .i64 y]] w fun e w' => e = .returned (.bool (askOk c s k a b x y)) ∧ Below w.heap.size w w' := by
  go_enter Try.func208, Try.ntmps208
  go_wp2_with (first | (go_at_call 209; refine (c_impl_AskOk _ _ _ _ _ _ _ _).mono ?_; rintro e w1 ⟨rfl, hb⟩; obtain ⟨hc, hf, hsz⟩ := bcell hb; have hz := hb.size; (try simp at hz)))
  go_ret
  exact ⟨rfl, by (repeat (first | with_reducible exact Below.refl _ _ | ((with_reducible refine bl_alloc ?_ ?_); (focus (first | (simp; done) | (simp; omega) | omega))) | ((with_reducible refine bl_set ?_ ?_); (focus (first | (simp; done) | (simp; omega) | omega))) | ((with_reducible refine bl_later ?_ ?_); (focus (first | (simp; done) | (simp; omega) | omega))) | with_reducible refine bl_drew ?_ | with_reducible refine bl_drewN ?_ | ((with_reducible refine bl_step (by assumption) ?_ ?_); (focus (first | (simp; done) | (simp; omega) | omega)))))⟩
theorem c_Ask_fields (c s k a b x y : Int) (w : World) (yc : inI64 c) (ys : inI64 s) (yk : inI64 k) (ya : inI64 a) (yb : inI64 b) (yx : inI64 x) (yy : inI64 y) : Calls Try.prog 207 #[.agg #[.int .i64 c, .int .i64 s, .int .i64 k, .int .i64 a, .int .i64 b, .int .i64 x, .int .i64 y]] w (RetI w 2 [c, s, k, a, b, x, y]) := by
  obtain ⟨i0, hi, hz0, hz1, hz2⟩ := info_parts info_int64
  go_enter Try.func207, Try.ntmps207
  go_wp2_with fail
  refine restS_begin (SB w w.heap.size [.int .i64 c, .int .i64 s, .int .i64 k, .int .i64 a, .int .i64 b, .int .i64 x, .int .i64 y]) (by kernel_rfl) (SB.start ((Below.refl _ _).alloc (Nat.le_refl _) _) (Bx.new w [.int .i64 c, .int .i64 s, .int .i64 k, .int .i64 a, .int .i64 b, .int .i64 x, .int .i64 y] 86)) ?_
  refine restS_take (v := ?_) 0 rfl (by kernel_rfl) (by kernel_rfl) (by kernel_rfl) (fun _ _ _ h => h) (by rfl) ?_ ?_
  rotate_left
  · intro w9 h9; try dsimp only at h9
    go_split_ands
    go_simp; try with_reducible rfl
  try simp only [Act.put, List.setIfInBounds_toArray, List.set_cons_zero, List.set_cons_succ]
  refine restS_take (v := ?_) 1 rfl (by kernel_rfl) (by kernel_rfl) (by kernel_rfl) (fun _ _ _ h => h) (by rfl) ?_ ?_
  rotate_left
  · intro w9 h9; obtain ⟨h8, h9⟩ := h9; obtain ⟨x9, rfl⟩ := later_of h8; replace h9 := h9.2; clear h8
    go_simp; try with_reducible rfl
  try simp only [Act.put, List.setIfInBounds_toArray, List.set_cons_zero, List.set_cons_succ]
  refine restS_take (v := ?_) 2 rfl (by kernel_rfl) (by kernel_rfl) (by kernel_rfl) (fun _ _ _ h => h) (by rfl) ?_ ?_
  rotate_left
  · intro w9 h9; try dsimp only at h9
    go_split_ands
    go_simp; try with_reducible rfl
  try simp only [Act.put, List.setIfInBounds_toArray, List.set_cons_zero, List.set_cons_succ]
  refine restS_take (v := ?_) 3 rfl (by kernel_rfl) (by kernel_rfl) (by kernel_rfl) (fun _ _ _ h => h) (by rfl) ?_ ?_
  rotate_left
  · intro w9 h9; obtain ⟨h8, h9⟩ := h9; obtain ⟨x9, rfl⟩ := later_of h8; replace h9 := h9.2; clear h8
    go_simp; try with_reducible rfl
  try simp only [Act.put, List.setIfInBounds_toArray, List.set_cons_zero, List.set_cons_succ]
  refine restS_take (v := ?_) 5 rfl (by kernel_rfl) (by kernel_rfl) (by kernel_rfl) (fun _ _ _ h => h) (by rfl) ?_ ?_
  rotate_left
  · intro w9 h9; try dsimp only at h9
    go_split_ands
    go_simp; try with_reducible rfl
  try simp only [Act.put, List.setIfInBounds_toArray, List.set_cons_zero, List.set_cons_succ]
  refine restS_take (v := ?_) 6 rfl (by kernel_rfl) (by kernel_rfl) (by kernel_rfl) (fun _ _ _ h => h) (by rfl) ?_ ?_
  rotate_left
  · intro w9 h9; obtain ⟨h8, h9⟩ := h9; obtain ⟨x9, rfl⟩ := later_of h8; replace h9 := h9.2; clear h8
    go_simp; try with_reducible rfl
  try simp only [Act.put, List.setIfInBounds_toArray, List.set_cons_zero, List.set_cons_succ]
  refine restS_two 4 7 rfl rfl (by kernel_rfl) (by rfl) (by rfl) (fun hS K hK => ?_) (fun hS K hK => ?_)
  · skip
    go_wp2_with fail
    have hOw := SB.lit hS (w.heap.size + 1) 2 [c, s] (by omega) (by simp) (by simp [yc, ys])
    simp only [World.size_drew, World.size_alloc] at hOw
    have hSx := SB.alloc hS (.cells (([c, s] : List Int).map (Value.int .i64)).toArray 2)
    refine hK.out _ _ hSx ?_
    try simp only [Act.put, List.setIfInBounds_toArray, List.set_cons_zero, List.set_cons_succ]
    clear hK K hS hSx
    refine restS_alone 7 rfl (by kernel_rfl) (by rfl) (fun hS K hK => ?_)
    go_wp2_with fail
    refine (c_impl_Op_numbers k a b x y _ yk ya yb yx yy).mono ?_
    rintro e w4 ⟨a4, c4, rfl, ho4, hb4⟩
    go_wp2_with fail
    have hSx := SB.step hS hb4
    have hRd := ho4.read
    replace hOw := hOw.below hb4
    refine hK.out _ _ hSx ?_
    try simp only [Act.put, List.setIfInBounds_toArray, List.set_cons_zero, List.set_cons_succ]
    clear hK K hS hSx
    refine restS_alone 8 rfl (by kernel_rfl) (by rfl) (fun hS K hK => ?_)
    have hlt := hOw.2.2.lt
    refine wpo_append_ints _ _ _ (by rfl) (w.heap.size + 1) 2 i0 Try.underlying22 hi hz0 hz1 hz2 _ _ _ _ [c, s] [k, a, b, x, y] (by rfl) hOw (by rfl) hRd (by simp) (by have h7 := hS.2.1; omega) (fun a5 c5 w5 ho5 hg5 => ?_)
    have hSx := SB.grown hS hg5 (fun k hk => Nat.le_trans (by simp) (hlt k hk).1) (fun e => by have h7 := (hlt _ e).1; omega)
    clear hlt
    refine hK.out _ _ hSx ?_
    try simp only [Act.put, List.setIfInBounds_toArray, List.set_cons_zero, List.set_cons_succ]
    clear hK K hS hSx
    refine restS_take (v := ?_) 9 rfl (by kernel_rfl) (by kernel_rfl) (by kernel_rfl) (fun _ _ _ h => h) (by rfl) ?_ ?_
    rotate_left
    · intro w9 h9; try dsimp only at h9
      go_split_ands
      go_simp; try with_reducible rfl
    try simp only [Act.put, List.setIfInBounds_toArray, List.set_cons_zero, List.set_cons_succ]
    refine restS_done (by kernel_rfl) (fun hS => ?_)
    go_wp2_with fail
    go_ret
    refine ⟨a5, c5, ?_, ho5.lower (by simp), hS.1⟩
    rfl
  · skip
    go_wp2_with fail
    refine (c_impl_Op_numbers k a b x y _ yk ya yb yx yy).mono ?_
    rintro e w4 ⟨a4, c4, rfl, ho4, hb4⟩
    go_wp2_with fail
    have hSx := SB.step hS hb4
    have hRd := ho4.read
    refine hK.out _ _ hSx ?_
    try simp only [Act.put, List.setIfInBounds_toArray, List.set_cons_zero, List.set_cons_succ]
    clear hK K hS hSx
    refine restS_alone 4 rfl (by kernel_rfl) (by rfl) (fun hS K hK => ?_)
    go_wp2_with fail
    have hOw := SB.lit hS (w.heap.size + 1) 2 [c, s] (by omega) (by simp) (by simp [yc, ys])
    have hSx := SB.alloc hS (.cells (([c, s] : List Int).map (Value.int .i64)).toArray 2)
    replace hRd := hRd.below ((Below.refl _ _).alloc (Nat.le_refl _) (.cells (([c, s] : List Int).map (Value.int .i64)).toArray 2))
    refine hK.out _ _ hSx ?_
    try simp only [Act.put, List.setIfInBounds_toArray, List.set_cons_zero, List.set_cons_succ]
    clear hK K hS hSx
    refine restS_alone 8 rfl (by kernel_rfl) (by rfl) (fun hS K hK => ?_)
    have hlt := hOw.2.2.lt
    refine wpo_append_ints _ _ _ (by rfl) (w.heap.size + 1) 2 i0 Try.underlying22 hi hz0 hz1 hz2 _ _ _ _ [c, s] [k, a, b, x, y] (by rfl) hOw (by rfl) hRd (by simp) (by have h7 := hS.2.1; omega) (fun a5 c5 w5 ho5 hg5 => ?_)
    have hSx := SB.grown hS hg5 (fun k hk => Nat.le_trans (by simp) (hlt k hk).1) (fun e => by have h7 := (hlt _ e).1; omega)
    clear hlt
    refine hK.out _ _ hSx ?_
    try simp only [Act.put, List.setIfInBounds_toArray, List.set_cons_zero, List.set_cons_succ]
    clear hK K hS hSx
    refine restS_take (v := ?_) 9 rfl (by kernel_rfl) (by kernel_rfl) (by kernel_rfl) (fun _ _ _ h => h) (by rfl) ?_ ?_
    rotate_left
    · intro w9 h9; try dsimp only at h9
      go_split_ands
      go_simp; try with_reducible rfl
    try simp only [Act.put, List.setIfInBounds_toArray, List.set_cons_zero, List.set_cons_succ]
    refine restS_done (by kernel_rfl) (fun hS => ?_)
    go_wp2_with fail
    go_ret
    refine ⟨a5, c5, ?_, ho5.lower (by simp), hS.1⟩
    rfl
theorem c_encoded_Ask (c s k a b x y : Int) (w : World) (yc : inI64 c) (ys : inI64 s) (yk : inI64 k) (ya : inI64 a) (yb : inI64 b) (yx : inI64 x) (yy : inI64 y) : Calls Try.prog 97 #[.iface 86 (.agg #[.int .i64 c, .int .i64 s, .int .i64 k, .int .i64 a, .int .i64 b, .int .i64 x, .int .i64 y])] w (RetI w 2 (rowAsk c s k a b x y)) := by
  obtain ⟨i0, hi, hz0, hz1, hz2⟩ := info_parts info_int64
  cases hE : (askOk c s k a b x y)
  all_goals
    go_enter Try.func97, Try.ntmps97
    go_wp2_with fail
    rw [run_method_direct (f := 208)]
    rotate_left
    · kernel_rfl
    go_wp2_with fail
    refine (c_Ask_valid _ _ _ _ _ _ _ _).mono ?_
    rintro e w1 ⟨rfl, hb1⟩
    have hs1 := hb1.size
    rw [hE]
    go_wp2_with fail
  · rw [rowAsk_f hE]
    go_ret
    exact ⟨_, _, rfl, owns_nil w1 _ _, hb1⟩
  · refine (c_kindOf_Ask _ _ _ _ _ _ _ _).mono ?_
    rintro e w1 ⟨rfl, rfl⟩
    go_wp2_with fail
    rw [run_method_direct (f := 207)]
    rotate_left
    · kernel_rfl
    go_wp2_with fail
    refine (c_Ask_fields _ _ _ _ _ _ _ _ yc ys yk ya yb yx yy).mono ?_
    rintro e w2 ⟨a2, c2, rfl, ho2, hb2⟩
    have ho1 := (owns_lit w1 w.heap.size 2 [1] hs1 (by simp) (by simp [inI64]))
    have Ho1 : Hid (IntsO w2 w.heap.size 2 (.slice (some ⟨w1.heap.size, 0, none⟩) [(1 : Int)].length 1) [1]) := ⟨ho1.1, ho1.2.1, owns_below ho1.2.2 hb2⟩
    have Ho2 := Lib.hid ho2.read
    have hz := hb2.size
    clear ho1 ho2
    go_wp2_with (at_builtin; refine wpList_append_ints rfl _ _ _ rfl w.heap.size 2 i0 Try.underlying22 hi hz0 hz1 hz2 _ _ _ _ [1] [c, s, k, a, b, x, y] rfl Ho1.out rfl Ho2.out (by simp) (by simp at hz; omega) (fun a3 c3 w3 ho3 hg3 => ?_))
    go_ret
    rw [rowAsk_t hE]
    exact ⟨a3, c3, rfl, ho3, (bl_step hb2 (by simp; omega) (by (repeat (first | with_reducible exact Below.refl _ _ | ((with_reducible refine bl_alloc ?_ ?_); (focus (first | (simp; done) | (simp; omega) | omega))) | ((with_reducible refine bl_set ?_ ?_); (focus (first | (simp; done) | (simp; omega) | omega))) | ((with_reducible refine bl_later ?_ ?_); (focus (first | (simp; done) | (simp; omega) | omega))) | with_reducible refine bl_drew ?_ | with_reducible refine bl_drewN ?_ | ((with_reducible refine bl_step (by assumption) ?_ ?_); (focus (first | (simp; done) | (simp; omega) | omega))))))).grown hg3 (by simp at hz; omega) (by simp [Value.ownBlock]; omega)⟩
theorem c_impl_AskRow (c s k a b x y : Int) (w : World) (yc : inI64 c) (ys : inI64 s) (yk : inI64 k) (ya : inI64 a) (yb : inI64 b) (yx : inI64 x) (yy : inI64 y) : Calls Try.prog 71 #[.agg #[.int .i64 c, .int .i64 s, .int .i64 k, .int .i64 a, .int .i64 b, .int .i64 x, .int .i64 y]] w (RetI w 2 (rowAsk c s k a b x y)) := by
  go_enter Try.func71, Try.ntmps71
  go_wp2_with fail
  refine (c_encoded_Ask _ _ _ _ _ _ _ _ yc ys yk ya yb yx yy).mono ?_
  rintro e w1 ⟨a1, c1, rfl, ho1, hb1⟩
  go_wp2_with fail
  go_ret
  exact ⟨a1, c1, rfl, ho1.lower (by simp), bl_step hb1 (by simp) (by (repeat (first | with_reducible exact Below.refl _ _ | ((with_reducible refine bl_alloc ?_ ?_); (focus (first | (simp; done) | (simp; omega) | omega))) | ((with_reducible refine bl_set ?_ ?_); (focus (first | (simp; done) | (simp; omega) | omega))) | ((with_reducible refine bl_later ?_ ?_); (focus (first | (simp; done) | (simp; omega) | omega))) | with_reducible refine bl_drew ?_ | with_reducible refine bl_drewN ?_ | ((with_reducible refine bl_step (by assumption) ?_ ?_); (focus (first | (simp; done) | (simp; omega) | omega))))))⟩
theorem c_law_AskRow (c s k a b x y : Int) (w : World) (yc : inI64 c) (ys : inI64 s) (yk : inI64 k) (ya : inI64 a) (yb : inI64 b) (yx : inI64 x) (yy : inI64 y) : Calls Try.prog 17 #[.agg #[.int .i64 c, .int .i64 s, .int .i64 k, .int .i64 a, .int .i64 b, .int .i64 x, .int .i64 y]] w fun e w' => e = .returned (.bool true) ∧ Below w.heap.size w w' := by
  have hL : (rowAsk c s k a b x y).length ≤ 1000 := by unfold rowAsk; split <;> simp
  go_enter Try.func17, Try.ntmps17
  go_wp2_with fail
  have Bt := Bx.new w [.int .i64 c, .int .i64 s, .int .i64 k, .int .i64 a, .int .i64 b, .int .i64 x, .int .i64 y] 83
  have hb0 : Below w.heap.size w (w.alloc (.cells ([.int .i64 c, .int .i64 s, .int .i64 k, .int .i64 a, .int .i64 b, .int .i64 x, .int .i64 y] : List Value).toArray 83)) := by (repeat (first | with_reducible exact Below.refl _ _ | ((with_reducible refine bl_alloc ?_ ?_); (focus (first | (simp; done) | (simp; omega) | omega))) | ((with_reducible refine bl_set ?_ ?_); (focus (first | (simp; done) | (simp; omega) | omega))) | ((with_reducible refine bl_later ?_ ?_); (focus (first | (simp; done) | (simp; omega) | omega))) | with_reducible refine bl_drew ?_ | with_reducible refine bl_drewN ?_ | ((with_reducible refine bl_step (by assumption) ?_ ?_); (focus (first | (simp; done) | (simp; omega) | omega)))))
  refine (c_laws_toAsk _ _ _ _ _ _ _ _).mono ?_
  rintro e w1 ⟨rfl, hb1⟩
  replace Bt := Bt.below hb1
  replace hb0 := bl_step hb1 hb0.size hb0
  clear hb1
  go_wp2_with fail
  refine (c_spec_AskRow _ _ _ _ _ _ _ _ yc ys yk ya yb yx yy).mono ?_
  rintro e w2 ⟨a2, c2, rfl, ho2, hb2⟩
  have hbt := Bt.1
  have hlt2 := ho2.2.2.lt
  have hs0 := hb0.size
  have hs2 := hb2.size
  replace Bt := Bt.below hb2
  replace hb0 := bl_step hb2 hb0.size hb0
  clear hb2
  have hcell := Bt.2
  go_wp2_with fail
  refine (c_laws_toAsk _ _ _ _ _ _ _ _).mono ?_
  rintro e w3 ⟨rfl, hb3⟩
  have hs3 := hb3.size
  replace Bt := Bt.below hb3
  replace hb0 := bl_step hb3 hb0.size hb0
  replace ho2 := ho2.below hb3
  clear hb3 hcell
  go_wp2_with fail
  refine (c_impl_AskRow _ _ _ _ _ _ _ _ yc ys yk ya yb yx yy).mono ?_
  rintro e w4 ⟨a4, c4, rfl, ho4, hb4⟩
  have hlt4 := ho4.2.2.lt
  have hs4 := hb4.size
  replace Bt := Bt.below hb4
  replace hb0 := bl_step hb4 hb0.size hb0
  replace ho2 := ho2.below hb4
  clear hb4
  go_wp2_with fail
  refine (c_eqInt64S _ _ _ _ _ _ _ ho4.read ho2.read).mono ?_
  rintro e w5 ⟨rfl, hb5⟩
  have hs5 := hb5.size
  replace Bt := Bt.below hb5
  replace hb0 := bl_step hb5 hb0.size hb0
  replace ho2 := ho2.below hb5
  replace ho4 := ho4.below hb5
  clear hb5
  go_wp2_with fail
  refine (c_laws_markInt64S _ _ _ _ _ _ ho4 (by omega) (by omega) (by omega)).mono ?_
  rintro e w6 ⟨rfl, ho6, hg6, hz6⟩
  replace ho2 := ho2.kept (B := w3.heap.size) (fun k hk => Nat.lt_of_lt_of_le (hlt2 k hk).2 hs3) (fun k hk => (hlt4 k hk).1) hg6
  replace hb0 := hb0.grown hg6 hb0.size (fun k hk => Nat.le_trans (Nat.le_trans hs0 (Nat.le_trans hs2 hs3)) (hlt4 k hk).1)
  replace Bt := Bt.grown hg6 (fun e => by have := (hlt4 _ e).1; omega)
  clear ho4 hg6
  have Hz6 := Lib.hid hz6
  clear hz6
  have hcell := Bt.2
  go_wp2_with fail
  refine (c_laws_heldInt64S _ _ _ _ _ (read_seqI ho6) (by omega) (by omega) (by omega)).mono ?_
  rintro e w6 ⟨rfl, rfl⟩
  go_wp2_with fail
  refine (c_laws_toAsk _ _ _ _ _ _ _ _).mono ?_
  rintro e w7 ⟨rfl, hb7⟩
  replace hb0 := bl_step hb7 hb0.size hb0
  replace ho2 := ho2.below hb7
  replace ho6 := ho6.below hb7
  clear hb7 hcell
  go_wp2_with fail
  refine (c_impl_AskRow _ _ _ _ _ _ _ _ yc ys yk ya yb yx yy).mono ?_
  rintro e w8 ⟨a8, c8, rfl, ho8, hb8⟩
  replace hb0 := bl_step hb8 hb0.size hb0
  replace ho2 := ho2.below hb8
  replace ho6 := ho6.below hb8
  clear hb8
  go_wp2_with fail
  refine (c_eqInt64S _ _ _ _ _ _ _ ho8.read ho2.read).mono ?_
  rintro e w9 ⟨rfl, hb9⟩
  replace hb0 := bl_step hb9 hb0.size hb0
  replace ho6 := ho6.below hb9
  clear hb9
  go_wp2_with fail
  refine (c_laws_heldInt64S _ _ _ _ _ (read_seqI ho6) (by omega) (by omega) (by omega)).mono ?_
  rintro e w9 ⟨rfl, rfl⟩
  go_wp2_with fail
  go_ret
  exact ⟨rfl, hb0⟩

end Go.Proofs.Ytpfkfppooeikeaa
/- Walks of functions of the program, printed by a program of the prover. -/
namespace Go.Proofs.Ytpfkfppooeikeaa
open Go.ChangeShapes Go.WideShapes Go.ChangeAt Go.RowKit Go.Deep
set_option maxHeartbeats 800000
set_option maxRecDepth 100000
theorem c_impl_opOf (ao : Option Addr) (cap : Nat) (k a b x y : Int) (w : World) (hh : IntsR w ao [k, a, b, x, y]) :
    Calls Try.prog 129 #[.slice ao 5 cap] w fun e w' => e = .returned (.agg #[.int .i64 k, .int .i64 a, .int .i64 b, .int .i64 x, .int .i64 y]) ∧ Below w.heap.size w w' := by
  obtain ⟨b0, off, rfl, hbl, hr0, hc⟩ := hh.at (k := 0) (by simp)
  have k0 := hc 0 (by simp)
  have k1 := hc 1 (by simp)
  have k2 := hc 2 (by simp)
  have k3 := hc 3 (by simp)
  have k4 := hc 4 (by simp)
  simp only [List.getElem_cons_zero, List.getElem_cons_succ, Nat.add_zero] at k0 k1 k2 k3 k4
  clear hc hh
  have hbl1 : b0 < w.heap.size + 1 := by omega
  go_enter Try.func129, Try.ntmps129
  go_wp2_with fail
  refine restS_begin (fun W => Below w.heap.size w W) (by kernel_rfl) (by (repeat (first | with_reducible exact Below.refl _ _ | ((with_reducible refine bl_alloc ?_ ?_); (focus (first | (simp; done) | (simp; omega) | omega))) | ((with_reducible refine bl_set ?_ ?_); (focus (first | (simp; done) | (simp; omega) | omega))) | ((with_reducible refine bl_later ?_ ?_); (focus (first | (simp; done) | (simp; omega) | omega))) | with_reducible refine bl_drew ?_ | with_reducible refine bl_drewN ?_ | ((with_reducible refine bl_step (by assumption) ?_ ?_); (focus (first | (simp; done) | (simp; omega) | omega)))))) ?_
  refine restS_take (v := ?_) 0 rfl (by kernel_rfl) (by kernel_rfl) (by kernel_rfl) (fun _ _ _ h => h) (by rfl) ?_ ?_
  rotate_left
  · intro w9 h9; try dsimp only at h9
    go_split_ands
    go_simp; try with_reducible rfl
  try simp only [Act.put, List.setIfInBounds_toArray, List.set_cons_zero, List.set_cons_succ]
  refine restS_take (v := ?_) 1 rfl (by kernel_rfl) (by kernel_rfl) (by kernel_rfl) (fun _ _ _ h => h) (by rfl) ?_ ?_
  rotate_left
  · intro w9 h9; try dsimp only at h9
    go_split_ands
    go_simp; try with_reducible rfl
  try simp only [Act.put, List.setIfInBounds_toArray, List.set_cons_zero, List.set_cons_succ]
  refine restS_take (v := ?_) 2 rfl (by kernel_rfl) (by kernel_rfl) (by kernel_rfl) (fun _ _ _ h => h) (by rfl) ?_ ?_
  rotate_left
  · intro w9 h9; try dsimp only at h9
    obtain ⟨x9, rfl⟩ := later_of h9
    go_simp; try with_reducible rfl
  try simp only [Act.put, List.setIfInBounds_toArray, List.set_cons_zero, List.set_cons_succ]
  refine restS_take (v := ?_) 3 rfl (by kernel_rfl) (by kernel_rfl) (by kernel_rfl) (fun _ _ _ h => h) (by rfl) ?_ ?_
  rotate_left
  · intro w9 h9; try dsimp only at h9
    go_split_ands
    go_simp; try with_reducible rfl
  try simp only [Act.put, List.setIfInBounds_toArray, List.set_cons_zero, List.set_cons_succ]
  refine restS_take (v := ?_) 4 rfl (by kernel_rfl) (by kernel_rfl) (by kernel_rfl) (fun _ _ _ h => h) (by rfl) ?_ ?_
  rotate_left
  · intro w9 h9; try dsimp only at h9
    go_split_ands
    go_simp; try with_reducible rfl
  try simp only [Act.put, List.setIfInBounds_toArray, List.set_cons_zero, List.set_cons_succ]
  refine restS_take (v := ?_) 5 rfl (by kernel_rfl) (by kernel_rfl) (by kernel_rfl) (fun _ _ _ h => h) (by rfl) ?_ ?_
  rotate_left
  · intro w9 h9; try dsimp only at h9
    obtain ⟨x9, rfl⟩ := later_of h9
    go_simp; try with_reducible rfl
  try simp only [Act.put, List.setIfInBounds_toArray, List.set_cons_zero, List.set_cons_succ]
  refine restS_take (v := ?_) 6 rfl (by kernel_rfl) (by kernel_rfl) (by kernel_rfl) (fun _ _ _ h => h) (by rfl) ?_ ?_
  rotate_left
  · intro w9 h9; try dsimp only at h9
    go_split_ands
    go_simp; try with_reducible rfl
  try simp only [Act.put, List.setIfInBounds_toArray, List.set_cons_zero, List.set_cons_succ]
  refine restS_take (v := ?_) 7 rfl (by kernel_rfl) (by kernel_rfl) (by kernel_rfl) (fun _ _ _ h => h) (by rfl) ?_ ?_
  rotate_left
  · intro w9 h9; try dsimp only at h9
    go_split_ands
    go_simp; try with_reducible rfl
  try simp only [Act.put, List.setIfInBounds_toArray, List.set_cons_zero, List.set_cons_succ]
  refine restS_take (v := ?_) 8 rfl (by kernel_rfl) (by kernel_rfl) (by kernel_rfl) (fun _ _ _ h => h) (by rfl) ?_ ?_
  rotate_left
  · intro w9 h9; try dsimp only at h9
    obtain ⟨x9, rfl⟩ := later_of h9
    go_simp; try with_reducible rfl
  try simp only [Act.put, List.setIfInBounds_toArray, List.set_cons_zero, List.set_cons_succ]
  refine restS_take (v := ?_) 9 rfl (by kernel_rfl) (by kernel_rfl) (by kernel_rfl) (fun _ _ _ h => h) (by rfl) ?_ ?_
  rotate_left
  · intro w9 h9; try dsimp only at h9
    go_split_ands
    go_simp; try with_reducible rfl
  try simp only [Act.put, List.setIfInBounds_toArray, List.set_cons_zero, List.set_cons_succ]
  refine restS_take (v := ?_) 10 rfl (by kernel_rfl) (by kernel_rfl) (by kernel_rfl) (fun _ _ _ h => h) (by rfl) ?_ ?_
  rotate_left
  · intro w9 h9; try dsimp only at h9
    go_split_ands
    go_simp; try with_reducible rfl
  try simp only [Act.put, List.setIfInBounds_toArray, List.set_cons_zero, List.set_cons_succ]
  refine restS_take (v := ?_) 11 rfl (by kernel_rfl) (by kernel_rfl) (by kernel_rfl) (fun _ _ _ h => h) (by rfl) ?_ ?_
  rotate_left
  · intro w9 h9; try dsimp only at h9
    obtain ⟨x9, rfl⟩ := later_of h9
    go_simp; try with_reducible rfl
  try simp only [Act.put, List.setIfInBounds_toArray, List.set_cons_zero, List.set_cons_succ]
  refine restS_take (v := ?_) 12 rfl (by kernel_rfl) (by kernel_rfl) (by kernel_rfl) (fun _ _ _ h => h) (by rfl) ?_ ?_
  rotate_left
  · intro w9 h9; try dsimp only at h9
    go_split_ands
    go_simp; try with_reducible rfl
  try simp only [Act.put, List.setIfInBounds_toArray, List.set_cons_zero, List.set_cons_succ]
  refine restS_take (v := ?_) 13 rfl (by kernel_rfl) (by kernel_rfl) (by kernel_rfl) (fun _ _ _ h => h) (by rfl) ?_ ?_
  rotate_left
  · intro w9 h9; try dsimp only at h9
    go_split_ands
    go_simp; try with_reducible rfl
  try simp only [Act.put, List.setIfInBounds_toArray, List.set_cons_zero, List.set_cons_succ]
  refine restS_take (v := ?_) 14 rfl (by kernel_rfl) (by kernel_rfl) (by kernel_rfl) (fun _ _ _ h => h) (by rfl) ?_ ?_
  rotate_left
  · intro w9 h9; try dsimp only at h9
    obtain ⟨x9, rfl⟩ := later_of h9
    go_simp; try with_reducible rfl
  try simp only [Act.put, List.setIfInBounds_toArray, List.set_cons_zero, List.set_cons_succ]
  refine restS_take (v := ?_) 15 rfl (by kernel_rfl) (by kernel_rfl) (by kernel_rfl) (fun _ _ _ h => h) (by rfl) ?_ ?_
  rotate_left
  · intro w9 h9; try dsimp only at h9
    go_split_ands
    go_simp; try with_reducible rfl
  try simp only [Act.put, List.setIfInBounds_toArray, List.set_cons_zero, List.set_cons_succ]
  refine restS_alone 16 rfl (by kernel_rfl) (by rfl) (fun hS K hK => ?_)
  go_wp2_with fail
  refine hK.out _ _ (by (repeat (first | with_reducible exact Below.refl _ _ | ((with_reducible refine bl_alloc ?_ ?_); (focus (first | (simp; done) | (simp; omega) | omega))) | ((with_reducible refine bl_set ?_ ?_); (focus (first | (simp; done) | (simp; omega) | omega))) | ((with_reducible refine bl_later ?_ ?_); (focus (first | (simp; done) | (simp; omega) | omega))) | with_reducible refine bl_drew ?_ | with_reducible refine bl_drewN ?_ | ((with_reducible refine bl_step (by assumption) ?_ ?_); (focus (first | (simp; done) | (simp; omega) | omega)))))) ?_
  try simp only [Act.put, List.setIfInBounds_toArray, List.set_cons_zero, List.set_cons_succ]
  clear hK K hS
  refine restS_done (by kernel_rfl) (fun hS => ?_)
  go_wp2_with fail
  refine bodyPost_ret (v := .agg #[.int .i64 k, .int .i64 a, .int .i64 b, .int .i64 x, .int .i64 y]) (by simp [results, Try.results129, go_sem, *]) rfl ⟨rfl, hS⟩
theorem c_clos_Ask (ao : Option Addr) (cap : Nat) (c s k a b x y : Int) (w : World) (hh : IntsR w ao [c, s, k, a, b, x, y]) (hcap : 7 ≤ cap) :
    Calls Try.prog 128 #[.slice ao 7 cap] w fun e w' => e = .returned (.agg #[.int .i64 c, .int .i64 s, .int .i64 k, .int .i64 a, .int .i64 b, .int .i64 x, .int .i64 y]) ∧ Below w.heap.size w w' := by
  obtain ⟨b0, off, rfl, hbl, hr0, hc⟩ := hh.at (k := 0) (by simp)
  have k0 := hc 0 (by simp)
  have k1 := hc 1 (by simp)
  have k2 := hc 2 (by simp)
  have k3 := hc 3 (by simp)
  have k4 := hc 4 (by simp)
  have k5 := hc 5 (by simp)
  have k6 := hc 6 (by simp)
  simp only [List.getElem_cons_zero, List.getElem_cons_succ, Nat.add_zero] at k0 k1 k2 k3 k4 k5 k6
  have hh2 := hh.tail.tail
  clear hc hh
  have hbl1 : b0 < w.heap.size + 1 := by omega
  have hcap2 : (2 : Int) ≤ cap := by omega
  have hBx := (Bx.new w [.int .i64 0, .int .i64 0, .int .i64 0, .int .i64 0, .int .i64 0, .int .i64 0, .int .i64 0] 86).drew
  have hFx := (Fx.new w [.int .i64 0, .int .i64 0, .int .i64 0, .int .i64 0, .int .i64 0, .int .i64 0, .int .i64 0] 86).drew
  have HBx := Lib.hid hBx
  have HFx := Lib.hid hFx
  have Hh2 := Lib.hid hh2
  clear hBx hFx hh2
  go_enter Try.func128, Try.ntmps128
  go_wp2_with fail
  have hBx := HBx.out
  have hFx := HFx.out
  have hh2 := Hh2.out
  refine restS_begin (fun W => Below w.heap.size w W) (by kernel_rfl) (by (repeat (first | with_reducible exact Below.refl _ _ | ((with_reducible refine bl_alloc ?_ ?_); (focus (first | (simp; done) | (simp; omega) | omega))) | ((with_reducible refine bl_set ?_ ?_); (focus (first | (simp; done) | (simp; omega) | omega))) | ((with_reducible refine bl_later ?_ ?_); (focus (first | (simp; done) | (simp; omega) | omega))) | with_reducible refine bl_drew ?_ | with_reducible refine bl_drewN ?_ | ((with_reducible refine bl_step (by assumption) ?_ ?_); (focus (first | (simp; done) | (simp; omega) | omega)))))) ?_
  refine restS_take (v := ?_) 0 rfl (by kernel_rfl) (by kernel_rfl) (by kernel_rfl) (fun _ _ _ h => h) (by rfl) ?_ ?_
  rotate_left
  · intro w9 h9; try dsimp only at h9
    go_split_ands
    go_simp; try with_reducible rfl
  try simp only [Act.put, List.setIfInBounds_toArray, List.set_cons_zero, List.set_cons_succ]
  refine restS_take (v := ?_) 1 rfl (by kernel_rfl) (by kernel_rfl) (by kernel_rfl) (fun _ _ _ h => h) (by rfl) ?_ ?_
  rotate_left
  · intro w9 h9; try dsimp only at h9
    go_split_ands
    go_simp; try with_reducible rfl
  try simp only [Act.put, List.setIfInBounds_toArray, List.set_cons_zero, List.set_cons_succ]
  refine restS_take (v := ?_) 2 rfl (by kernel_rfl) (by kernel_rfl) (by kernel_rfl) (fun _ _ _ h => h) (by rfl) ?_ ?_
  rotate_left
  · intro w9 h9; try dsimp only at h9
    obtain ⟨x9, rfl⟩ := later_of h9
    go_simp; try with_reducible rfl
  try simp only [Act.put, List.setIfInBounds_toArray, List.set_cons_zero, List.set_cons_succ]
  refine restS_take (v := ?_) 3 rfl (by kernel_rfl) (by kernel_rfl) (by kernel_rfl) (fun _ _ _ h => h) (by rfl) ?_ ?_
  rotate_left
  · intro w9 h9; try dsimp only at h9
    go_split_ands
    go_simp; try with_reducible rfl
  try simp only [Act.put, List.setIfInBounds_toArray, List.set_cons_zero, List.set_cons_succ]
  refine restS_take (v := ?_) 4 rfl (by kernel_rfl) (by kernel_rfl) (by kernel_rfl) (fun _ _ _ h => h) (by rfl) ?_ ?_
  rotate_left
  · intro w9 h9; try dsimp only at h9
    go_split_ands
    go_simp; try with_reducible rfl
  try simp only [Act.put, List.setIfInBounds_toArray, List.set_cons_zero, List.set_cons_succ]
  refine restS_take (v := ?_) 5 rfl (by kernel_rfl) (by kernel_rfl) (by kernel_rfl) (fun _ _ _ h => h) (by rfl) ?_ ?_
  rotate_left
  · intro w9 h9; try dsimp only at h9
    obtain ⟨x9, rfl⟩ := later_of h9
    go_simp; try with_reducible rfl
  try simp only [Act.put, List.setIfInBounds_toArray, List.set_cons_zero, List.set_cons_succ]
  refine restS_take (v := ?_) 6 rfl (by kernel_rfl) (by kernel_rfl) (by kernel_rfl) (fun _ _ _ h => h) (by rfl) ?_ ?_
  rotate_left
  · intro w9 h9; try dsimp only at h9
    go_split_ands
    go_simp; try with_reducible rfl
  try simp only [Act.put, List.setIfInBounds_toArray, List.set_cons_zero, List.set_cons_succ]
  refine restS_take (v := ?_) 7 rfl (by kernel_rfl) (by kernel_rfl) (by kernel_rfl) (fun _ _ _ h => h) (by rfl) ?_ ?_
  rotate_left
  · intro w9 h9; try dsimp only at h9
    go_split_ands
    go_simp; try with_reducible rfl
  try simp only [Act.put, List.setIfInBounds_toArray, List.set_cons_zero, List.set_cons_succ]
  refine restS_alone 8 rfl (by kernel_rfl) (by rfl) (fun hS K hK => ?_)
  go_wp2_with fail
  refine (c_impl_opOf _ _ k a b x y _ (hh2.below hS)).mono ?_
  rintro e w4 ⟨rfl, hb4⟩
  go_wp2_with fail
  have hSx := bl_step hb4 hS.size hS
  replace hBx := hBx.below hb4
  replace hFx := hFx.below hb4
  refine hK.out _ _ hSx ?_
  try simp only [Act.put, List.setIfInBounds_toArray, List.set_cons_zero, List.set_cons_succ]
  clear hK K hS hSx
  refine restS_take (v := ?_) 9 rfl (by kernel_rfl) (by kernel_rfl) (by kernel_rfl) (fun _ _ _ h => h) (by rfl) ?_ ?_
  rotate_left
  · intro w9 h9; try dsimp only at h9
    go_split_ands
    go_simp; try with_reducible rfl
  try simp only [Act.put, List.setIfInBounds_toArray, List.set_cons_zero, List.set_cons_succ]
  refine restS_alone 10 rfl (by kernel_rfl) (by rfl) (fun hS K hK => ?_)
  have q0 := hBx.2
  have q1 := hFx.2
  go_wp2_with fail
  refine hK.out _ _ (by (repeat (first | with_reducible exact Below.refl _ _ | ((with_reducible refine bl_alloc ?_ ?_); (focus (first | (simp; done) | (simp; omega) | omega))) | ((with_reducible refine bl_set ?_ ?_); (focus (first | (simp; done) | (simp; omega) | omega))) | ((with_reducible refine bl_later ?_ ?_); (focus (first | (simp; done) | (simp; omega) | omega))) | with_reducible refine bl_drew ?_ | with_reducible refine bl_drewN ?_ | ((with_reducible refine bl_step (by assumption) ?_ ?_); (focus (first | (simp; done) | (simp; omega) | omega)))))) ?_
  try simp only [Act.put, List.setIfInBounds_toArray, List.set_cons_zero, List.set_cons_succ]
  clear hK K hS
  refine restS_done (by kernel_rfl) (fun hS => ?_)
  go_wp2_with fail
  refine bodyPost_ret (v := .agg #[.int .i64 c, .int .i64 s, .int .i64 k, .int .i64 a, .int .i64 b, .int .i64 x, .int .i64 y]) (by simp [results, Try.results128, go_sem, *]) rfl ⟨rfl, hS⟩

end Go.Proofs.Ytpfkfppooeikeaa
/- Walks of functions of the program, printed by a program of the prover. -/
namespace Go.Proofs.Ytpfkfppooeikeaa
open Go.ChangeShapes Go.WideShapes Go.ChangeAt Go.RowKit Go.Deep
set_option maxHeartbeats 1600000
set_option maxRecDepth 100000
theorem c_impl_RowEntry_t (ao : Option Addr) (cap : Nat) (i t c s k a b x y : Int) (w : World) (hh : IntsR w ao [i, t, c, s, k, a, b, x, y]) (hcap : 9 ≤ cap) (hE : entryOk i t c s k a b x y = true) :
    Calls Try.prog 142 #[.slice ao 9 cap] w fun e w' => e = .returned (.tuple #[.agg #[.int .i64 i, .int .i64 t, .int .i64 c, .int .i64 s, .int .i64 k, .int .i64 a, .int .i64 b, .int .i64 x, .int .i64 y], .bool true]) ∧ Below w.heap.size w w' := by
  obtain ⟨b0, off, rfl, hbl, hr0, hc⟩ := hh.at (k := 0) (by simp)
  have k0 := hc 0 (by simp)
  have k1 := hc 1 (by simp)
  have k2 := hc 2 (by simp)
  have k3 := hc 3 (by simp)
  simp only [List.getElem_cons_zero, List.getElem_cons_succ, Nat.add_zero] at k0 k1 k2 k3
  have hh4 : IntsR w (some ⟨b0, off + 4, none⟩) [k, a, b, x, y] := hh.tail.tail.tail.tail
  clear hc hh hr0
  have hcap4 : (4 : Int) ≤ cap := by omega
  have hbl1 : b0 < w.heap.size + 1 := by omega
  have Hh4 := Lib.hid hh4
  clear hh4
  go_enter Try.func142, Try.ntmps142
  go_wp2_with fail
  have Bz := (Bx.new w [.int .i64 0, .int .i64 0, .int .i64 0, .int .i64 0, .int .i64 0, .int .i64 0, .int .i64 0, .int .i64 0, .int .i64 0] 70).drew
  have Fz := (Fx.new w [.int .i64 0, .int .i64 0, .int .i64 0, .int .i64 0, .int .i64 0, .int .i64 0, .int .i64 0, .int .i64 0, .int .i64 0] 70).drew
  have hh4 := Hh4.out
  refine restS_begin (fun W => Below w.heap.size w W) (by kernel_rfl) (by (repeat (first | with_reducible exact Below.refl _ _ | ((with_reducible refine bl_alloc ?_ ?_); (focus (first | (simp; done) | (simp; omega) | omega))) | ((with_reducible refine bl_set ?_ ?_); (focus (first | (simp; done) | (simp; omega) | omega))) | ((with_reducible refine bl_later ?_ ?_); (focus (first | (simp; done) | (simp; omega) | omega))) | with_reducible refine bl_drew ?_ | with_reducible refine bl_drewN ?_ | ((with_reducible refine bl_step (by assumption) ?_ ?_); (focus (first | (simp; done) | (simp; omega) | omega)))))) ?_
  refine restS_take (v := ?_) 0 rfl (by kernel_rfl) (by kernel_rfl) (by kernel_rfl) (fun _ _ _ h => h) (by rfl) ?_ ?_
  rotate_left
  · intro w9 h9; try dsimp only at h9
    go_split_ands
    go_simp; try with_reducible rfl
  try simp only [Act.put, List.setIfInBounds_toArray, List.set_cons_zero, List.set_cons_succ]
  refine restS_take (v := ?_) 1 rfl (by kernel_rfl) (by kernel_rfl) (by kernel_rfl) (fun _ _ _ h => h) (by rfl) ?_ ?_
  rotate_left
  · intro w9 h9; try dsimp only at h9
    go_split_ands
    go_simp; try with_reducible rfl
  try simp only [Act.put, List.setIfInBounds_toArray, List.set_cons_zero, List.set_cons_succ]
  refine restS_take (v := ?_) 2 rfl (by kernel_rfl) (by kernel_rfl) (by kernel_rfl) (fun _ _ _ h => h) (by rfl) ?_ ?_
  rotate_left
  · intro w9 h9; try dsimp only at h9
    obtain ⟨x9, rfl⟩ := later_of h9
    go_simp; try with_reducible rfl
  try simp only [Act.put, List.setIfInBounds_toArray, List.set_cons_zero, List.set_cons_succ]
  refine restS_take (v := ?_) 3 rfl (by kernel_rfl) (by kernel_rfl) (by kernel_rfl) (fun _ _ _ h => h) (by rfl) ?_ ?_
  rotate_left
  · intro w9 h9; try dsimp only at h9
    go_split_ands
    go_simp; try with_reducible rfl
  try simp only [Act.put, List.setIfInBounds_toArray, List.set_cons_zero, List.set_cons_succ]
  refine restS_take (v := ?_) 4 rfl (by kernel_rfl) (by kernel_rfl) (by kernel_rfl) (fun _ _ _ h => h) (by rfl) ?_ ?_
  rotate_left
  · intro w9 h9; try dsimp only at h9
    go_split_ands
    go_simp; try with_reducible rfl
  try simp only [Act.put, List.setIfInBounds_toArray, List.set_cons_zero, List.set_cons_succ]
  refine restS_take (v := ?_) 5 rfl (by kernel_rfl) (by kernel_rfl) (by kernel_rfl) (fun _ _ _ h => h) (by rfl) ?_ ?_
  rotate_left
  · intro w9 h9; try dsimp only at h9
    obtain ⟨x9, rfl⟩ := later_of h9
    go_simp; try with_reducible rfl
  try simp only [Act.put, List.setIfInBounds_toArray, List.set_cons_zero, List.set_cons_succ]
  refine restS_take (v := ?_) 6 rfl (by kernel_rfl) (by kernel_rfl) (by kernel_rfl) (fun _ _ _ h => h) (by rfl) ?_ ?_
  rotate_left
  · intro w9 h9; try dsimp only at h9
    go_split_ands
    go_simp; try with_reducible rfl
  try simp only [Act.put, List.setIfInBounds_toArray, List.set_cons_zero, List.set_cons_succ]
  refine restS_take (v := ?_) 7 rfl (by kernel_rfl) (by kernel_rfl) (by kernel_rfl) (fun _ _ _ h => h) (by rfl) ?_ ?_
  rotate_left
  · intro w9 h9; try dsimp only at h9
    go_split_ands
    go_simp; try with_reducible rfl
  try simp only [Act.put, List.setIfInBounds_toArray, List.set_cons_zero, List.set_cons_succ]
  refine restS_take (v := ?_) 8 rfl (by kernel_rfl) (by kernel_rfl) (by kernel_rfl) (fun _ _ _ h => h) (by rfl) ?_ ?_
  rotate_left
  · intro w9 h9; try dsimp only at h9
    obtain ⟨x9, rfl⟩ := later_of h9
    go_simp; try with_reducible rfl
  try simp only [Act.put, List.setIfInBounds_toArray, List.set_cons_zero, List.set_cons_succ]
  refine restS_take (v := ?_) 9 rfl (by kernel_rfl) (by kernel_rfl) (by kernel_rfl) (fun _ _ _ h => h) (by rfl) ?_ ?_
  rotate_left
  · intro w9 h9; try dsimp only at h9
    go_split_ands
    go_simp; try with_reducible rfl
  try simp only [Act.put, List.setIfInBounds_toArray, List.set_cons_zero, List.set_cons_succ]
  refine restS_take (v := ?_) 10 rfl (by kernel_rfl) (by kernel_rfl) (by kernel_rfl) (fun _ _ _ h => h) (by rfl) ?_ ?_
  rotate_left
  · intro w9 h9; try dsimp only at h9
    go_split_ands
    go_simp; try with_reducible rfl
  try simp only [Act.put, List.setIfInBounds_toArray, List.set_cons_zero, List.set_cons_succ]
  refine restS_take (v := ?_) 11 rfl (by kernel_rfl) (by kernel_rfl) (by kernel_rfl) (fun _ _ _ h => h) (by rfl) ?_ ?_
  rotate_left
  · intro w9 h9; try dsimp only at h9
    obtain ⟨x9, rfl⟩ := later_of h9
    go_simp; try with_reducible rfl
  try simp only [Act.put, List.setIfInBounds_toArray, List.set_cons_zero, List.set_cons_succ]
  refine restS_take (v := ?_) 12 rfl (by kernel_rfl) (by kernel_rfl) (by kernel_rfl) (fun _ _ _ h => h) (by rfl) ?_ ?_
  rotate_left
  · intro w9 h9; try dsimp only at h9
    go_split_ands
    go_simp; try with_reducible rfl
  try simp only [Act.put, List.setIfInBounds_toArray, List.set_cons_zero, List.set_cons_succ]
  refine restS_take (v := ?_) 13 rfl (by kernel_rfl) (by kernel_rfl) (by kernel_rfl) (fun _ _ _ h => h) (by rfl) ?_ ?_
  rotate_left
  · intro w9 h9; try dsimp only at h9
    go_split_ands
    go_simp; try with_reducible rfl
  try simp only [Act.put, List.setIfInBounds_toArray, List.set_cons_zero, List.set_cons_succ]
  refine restS_two 14 16 rfl rfl (by kernel_rfl) (by rfl) (by rfl) (fun hS K hK => ?_) (fun hS K hK => ?_)
  · skip
    go_wp2_with fail
    refine (c_impl_opOf _ _ k a b x y _ (hh4.below hS)).mono ?_
    rintro e w4 ⟨rfl, hb4⟩
    go_wp2_with fail
    have hSx := bl_step hb4 hS.size hS
    replace Bz := Bz.below hb4
    replace Fz := Fz.below hb4
    refine hK.out _ _ hSx ?_
    try simp only [Act.put, List.setIfInBounds_toArray, List.set_cons_zero, List.set_cons_succ]
    clear hK K hS
    clear hSx
    refine restS_take (v := ?_) 15 rfl (by kernel_rfl) (by kernel_rfl) (by kernel_rfl) (fun _ _ _ h => h) (by rfl) ?_ ?_
    rotate_left
    · intro w9 h9; try dsimp only at h9
      go_split_ands
      go_simp; try with_reducible rfl
    try simp only [Act.put, List.setIfInBounds_toArray, List.set_cons_zero, List.set_cons_succ]
    refine restS_alone 16 rfl (by kernel_rfl) (by rfl) (fun hS K hK => ?_)
    go_wp2_with fail
    have hS4 := hS
    have Bz4 := Bz
    have Fz4 := Fz
    refine hK.out _ _ (hS.alloc hS.size (.cells ([.int .i64 0, .int .i64 0, .int .i64 0, .int .i64 0, .int .i64 0, .int .i64 0, .int .i64 0, .int .i64 0, .int .i64 0] : List Value).toArray 70)) ?_
    try simp only [Act.put, List.setIfInBounds_toArray, List.set_cons_zero, List.set_cons_succ]
    clear hK K hS
    refine restS_alone 17 rfl (by kernel_rfl) (by rfl) (fun hS K hK => ?_)
    go_wp2_with fail
    replace Bz := Bz4.alloc (.cells ([.int .i64 i, .int .i64 t, .int .i64 c, .int .i64 s, .int .i64 k, .int .i64 a, .int .i64 b, .int .i64 x, .int .i64 y] : List Value).toArray 70)
    replace Fz := Fz4.alloc (.cells ([.int .i64 i, .int .i64 t, .int .i64 c, .int .i64 s, .int .i64 k, .int .i64 a, .int .i64 b, .int .i64 x, .int .i64 y] : List Value).toArray 70)
    have By := Bx.new w4 [.int .i64 i, .int .i64 t, .int .i64 c, .int .i64 s, .int .i64 k, .int .i64 a, .int .i64 b, .int .i64 x, .int .i64 y] 70
    refine hK.out _ _ (hS4.alloc hS4.size (.cells ([.int .i64 i, .int .i64 t, .int .i64 c, .int .i64 s, .int .i64 k, .int .i64 a, .int .i64 b, .int .i64 x, .int .i64 y] : List Value).toArray 70)) ?_
    try simp only [Act.put, List.setIfInBounds_toArray, List.set_cons_zero, List.set_cons_succ]
    clear hK K hS
    refine restS_done (by kernel_rfl) (fun hS => ?_)
    have q2 := By.2
    go_wp2_with (go_at_call 156; refine (c_impl_EntryOk i t c s k a b x y _).mono ?_; rintro e w2 ⟨rfl, hb2⟩; clear q2; have q0 := (Bz.below hb2).2; have q1 := (Fz.below hb2).2; have q2 := (By.below hb2).2; have hw3 := bl_step hb2 hS.size hS; have hz2 := Nat.lt_of_lt_of_le Bz.1 hb2.size)
    refine bodyPost_ret (v := .tuple #[.agg #[.int .i64 i, .int .i64 t, .int .i64 c, .int .i64 s, .int .i64 k, .int .i64 a, .int .i64 b, .int .i64 x, .int .i64 y], .bool true]) (by simp [results, Try.results142, go_sem, *]) rfl ⟨rfl, ?_⟩
    (repeat (first | with_reducible exact Below.refl _ _ | ((with_reducible refine bl_alloc ?_ ?_); (focus (first | (simp; done) | (simp; omega) | omega))) | ((with_reducible refine bl_set ?_ ?_); (focus (first | (simp; done) | (simp; omega) | omega))) | ((with_reducible refine bl_later ?_ ?_); (focus (first | (simp; done) | (simp; omega) | omega))) | with_reducible refine bl_drew ?_ | with_reducible refine bl_drewN ?_ | ((with_reducible refine bl_step (by assumption) ?_ ?_); (focus (first | (simp; done) | (simp; omega) | omega)))))
  · skip
    go_wp2_with fail
    have By := Bx.new (w.alloc (.cells ([.int .i64 0, .int .i64 0, .int .i64 0, .int .i64 0, .int .i64 0, .int .i64 0, .int .i64 0, .int .i64 0, .int .i64 0] : List Value).toArray 70)) [.int .i64 0, .int .i64 0, .int .i64 0, .int .i64 0, .int .i64 0, .int .i64 0, .int .i64 0, .int .i64 0, .int .i64 0] 70 |>.drew
    have Fy := Fx.new (w.alloc (.cells ([.int .i64 0, .int .i64 0, .int .i64 0, .int .i64 0, .int .i64 0, .int .i64 0, .int .i64 0, .int .i64 0, .int .i64 0] : List Value).toArray 70)) [.int .i64 0, .int .i64 0, .int .i64 0, .int .i64 0, .int .i64 0, .int .i64 0, .int .i64 0, .int .i64 0, .int .i64 0] 70 |>.drew
    rw [World.size_alloc] at By Fy
    replace Bz := (Bx.new w [.int .i64 0, .int .i64 0, .int .i64 0, .int .i64 0, .int .i64 0, .int .i64 0, .int .i64 0, .int .i64 0, .int .i64 0] 70).alloc (.cells ([.int .i64 0, .int .i64 0, .int .i64 0, .int .i64 0, .int .i64 0, .int .i64 0, .int .i64 0, .int .i64 0, .int .i64 0] : List Value).toArray 70) |>.drew
    replace Fz := (Fx.new w [.int .i64 0, .int .i64 0, .int .i64 0, .int .i64 0, .int .i64 0, .int .i64 0, .int .i64 0, .int .i64 0, .int .i64 0] 70).alloc (.cells ([.int .i64 0, .int .i64 0, .int .i64 0, .int .i64 0, .int .i64 0, .int .i64 0, .int .i64 0, .int .i64 0, .int .i64 0] : List Value).toArray 70) |>.drew
    refine hK.out _ _ (by (repeat (first | with_reducible exact Below.refl _ _ | ((with_reducible refine bl_alloc ?_ ?_); (focus (first | (simp; done) | (simp; omega) | omega))) | ((with_reducible refine bl_set ?_ ?_); (focus (first | (simp; done) | (simp; omega) | omega))) | ((with_reducible refine bl_later ?_ ?_); (focus (first | (simp; done) | (simp; omega) | omega))) | with_reducible refine bl_drew ?_ | with_reducible refine bl_drewN ?_ | ((with_reducible refine bl_step (by assumption) ?_ ?_); (focus (first | (simp; done) | (simp; omega) | omega)))))) ?_
    try simp only [Act.put, List.setIfInBounds_toArray, List.set_cons_zero, List.set_cons_succ]
    clear hK K hS
    refine restS_alone 14 rfl (by kernel_rfl) (by rfl) (fun hS K hK => ?_)
    go_wp2_with fail
    refine (c_impl_opOf _ _ k a b x y _ (hh4.below hS)).mono ?_
    rintro e w4 ⟨rfl, hb4⟩
    go_wp2_with fail
    have hSx := bl_step hb4 hS.size hS
    replace Bz := Bz.below hb4
    replace Fz := Fz.below hb4
    replace By := By.below hb4
    replace Fy := Fy.below hb4
    refine hK.out _ _ hSx ?_
    try simp only [Act.put, List.setIfInBounds_toArray, List.set_cons_zero, List.set_cons_succ]
    clear hK K hS
    clear hSx
    refine restS_take (v := ?_) 15 rfl (by kernel_rfl) (by kernel_rfl) (by kernel_rfl) (fun _ _ _ h => h) (by rfl) ?_ ?_
    rotate_left
    · intro w9 h9; try dsimp only at h9
      go_split_ands
      go_simp; try with_reducible rfl
    try simp only [Act.put, List.setIfInBounds_toArray, List.set_cons_zero, List.set_cons_succ]
    refine restS_alone 17 rfl (by kernel_rfl) (by rfl) (fun hS K hK => ?_)
    have q0 := By.2
    have q1 := Fy.2
    go_wp2_with fail
    clear q0 q1
    have hS2 := hS
    replace By := By.set 0 (.int .i64 i) (by simp)
    replace Bz := Bz.setOther ⟨w.heap.size + 1, 0, none⟩ (.int .i64 i) (by simp)
    replace Fz := Fz.set ⟨w.heap.size + 1, 0, none⟩ (.int .i64 i)
    replace hS2 := hS2.setCell (p := ⟨w.heap.size + 1, 0, none⟩) (by simp) (.int .i64 i)
    replace By := By.set 1 (.int .i64 t) (by simp)
    replace Bz := Bz.setOther ⟨w.heap.size + 1, 1, none⟩ (.int .i64 t) (by simp)
    replace Fz := Fz.set ⟨w.heap.size + 1, 1, none⟩ (.int .i64 t)
    replace hS2 := hS2.setCell (p := ⟨w.heap.size + 1, 1, none⟩) (by simp) (.int .i64 t)
    replace By := By.set 2 (.int .i64 c) (by simp)
    replace Bz := Bz.setOther ⟨w.heap.size + 1, 2, none⟩ (.int .i64 c) (by simp)
    replace Fz := Fz.set ⟨w.heap.size + 1, 2, none⟩ (.int .i64 c)
    replace hS2 := hS2.setCell (p := ⟨w.heap.size + 1, 2, none⟩) (by simp) (.int .i64 c)
    replace By := By.set 3 (.int .i64 s) (by simp)
    replace Bz := Bz.setOther ⟨w.heap.size + 1, 3, none⟩ (.int .i64 s) (by simp)
    replace Fz := Fz.set ⟨w.heap.size + 1, 3, none⟩ (.int .i64 s)
    replace hS2 := hS2.setCell (p := ⟨w.heap.size + 1, 3, none⟩) (by simp) (.int .i64 s)
    replace By := By.set 4 (.int .i64 k) (by simp)
    replace Bz := Bz.setOther ⟨w.heap.size + 1, 4, none⟩ (.int .i64 k) (by simp)
    replace Fz := Fz.set ⟨w.heap.size + 1, 4, none⟩ (.int .i64 k)
    replace hS2 := hS2.setCell (p := ⟨w.heap.size + 1, 4, none⟩) (by simp) (.int .i64 k)
    replace By := By.set 5 (.int .i64 a) (by simp)
    replace Bz := Bz.setOther ⟨w.heap.size + 1, 5, none⟩ (.int .i64 a) (by simp)
    replace Fz := Fz.set ⟨w.heap.size + 1, 5, none⟩ (.int .i64 a)
    replace hS2 := hS2.setCell (p := ⟨w.heap.size + 1, 5, none⟩) (by simp) (.int .i64 a)
    replace By := By.set 6 (.int .i64 b) (by simp)
    replace Bz := Bz.setOther ⟨w.heap.size + 1, 6, none⟩ (.int .i64 b) (by simp)
    replace Fz := Fz.set ⟨w.heap.size + 1, 6, none⟩ (.int .i64 b)
    replace hS2 := hS2.setCell (p := ⟨w.heap.size + 1, 6, none⟩) (by simp) (.int .i64 b)
    replace By := By.set 7 (.int .i64 x) (by simp)
    replace Bz := Bz.setOther ⟨w.heap.size + 1, 7, none⟩ (.int .i64 x) (by simp)
    replace Fz := Fz.set ⟨w.heap.size + 1, 7, none⟩ (.int .i64 x)
    replace hS2 := hS2.setCell (p := ⟨w.heap.size + 1, 7, none⟩) (by simp) (.int .i64 x)
    replace By := By.set 8 (.int .i64 y) (by simp)
    replace Bz := Bz.setOther ⟨w.heap.size + 1, 8, none⟩ (.int .i64 y) (by simp)
    replace Fz := Fz.set ⟨w.heap.size + 1, 8, none⟩ (.int .i64 y)
    replace hS2 := hS2.setCell (p := ⟨w.heap.size + 1, 8, none⟩) (by simp) (.int .i64 y)
    simp only [List.set_cons_zero, List.set_cons_succ] at By
    refine hK.out _ _ hS2 ?_
    try simp only [Act.put, List.setIfInBounds_toArray, List.set_cons_zero, List.set_cons_succ]
    clear hK K hS
    clear hS2
    refine restS_done (by kernel_rfl) (fun hS => ?_)
    have q2 := By.2
    go_wp2_with (go_at_call 156; refine (c_impl_EntryOk i t c s k a b x y _).mono ?_; rintro e w2 ⟨rfl, hb2⟩; clear q2; have q0 := (Bz.below hb2).2; have q1 := (Fz.below hb2).2; have q2 := (By.below hb2).2; have hw3 := bl_step hb2 hS.size hS; have hz2 := Nat.lt_of_lt_of_le Bz.1 hb2.size)
    refine bodyPost_ret (v := .tuple #[.agg #[.int .i64 i, .int .i64 t, .int .i64 c, .int .i64 s, .int .i64 k, .int .i64 a, .int .i64 b, .int .i64 x, .int .i64 y], .bool true]) (by simp [results, Try.results142, go_sem, *]) rfl ⟨rfl, ?_⟩
    (repeat (first | with_reducible exact Below.refl _ _ | ((with_reducible refine bl_alloc ?_ ?_); (focus (first | (simp; done) | (simp; omega) | omega))) | ((with_reducible refine bl_set ?_ ?_); (focus (first | (simp; done) | (simp; omega) | omega))) | ((with_reducible refine bl_later ?_ ?_); (focus (first | (simp; done) | (simp; omega) | omega))) | with_reducible refine bl_drew ?_ | with_reducible refine bl_drewN ?_ | ((with_reducible refine bl_step (by assumption) ?_ ?_); (focus (first | (simp; done) | (simp; omega) | omega)))))
theorem c_impl_RowEntry_f (ao : Option Addr) (cap : Nat) (i t c s k a b x y : Int) (w : World) (hh : IntsR w ao [i, t, c, s, k, a, b, x, y]) (hcap : 9 ≤ cap) (hE : entryOk i t c s k a b x y = false) :
    Calls Try.prog 142 #[.slice ao 9 cap] w fun e w' => e = .returned (.tuple #[.agg #[.int .i64 0, .int .i64 0, .int .i64 0, .int .i64 0, .int .i64 0, .int .i64 0, .int .i64 0, .int .i64 0, .int .i64 0], .bool false]) ∧ Below w.heap.size w w' := by
  obtain ⟨b0, off, rfl, hbl, hr0, hc⟩ := hh.at (k := 0) (by simp)
  have k0 := hc 0 (by simp)
  have k1 := hc 1 (by simp)
  have k2 := hc 2 (by simp)
  have k3 := hc 3 (by simp)
  simp only [List.getElem_cons_zero, List.getElem_cons_succ, Nat.add_zero] at k0 k1 k2 k3
  have hh4 : IntsR w (some ⟨b0, off + 4, none⟩) [k, a, b, x, y] := hh.tail.tail.tail.tail
  clear hc hh hr0
  have hcap4 : (4 : Int) ≤ cap := by omega
  have hbl1 : b0 < w.heap.size + 1 := by omega
  have Hh4 := Lib.hid hh4
  clear hh4
  go_enter Try.func142, Try.ntmps142
  go_wp2_with fail
  have Bz := (Bx.new w [.int .i64 0, .int .i64 0, .int .i64 0, .int .i64 0, .int .i64 0, .int .i64 0, .int .i64 0, .int .i64 0, .int .i64 0] 70).drew
  have Fz := (Fx.new w [.int .i64 0, .int .i64 0, .int .i64 0, .int .i64 0, .int .i64 0, .int .i64 0, .int .i64 0, .int .i64 0, .int .i64 0] 70).drew
  have hh4 := Hh4.out
  refine restS_begin (fun W => Below w.heap.size w W) (by kernel_rfl) (by (repeat (first | with_reducible exact Below.refl _ _ | ((with_reducible refine bl_alloc ?_ ?_); (focus (first | (simp; done) | (simp; omega) | omega))) | ((with_reducible refine bl_set ?_ ?_); (focus (first | (simp; done) | (simp; omega) | omega))) | ((with_reducible refine bl_later ?_ ?_); (focus (first | (simp; done) | (simp; omega) | omega))) | with_reducible refine bl_drew ?_ | with_reducible refine bl_drewN ?_ | ((with_reducible refine bl_step (by assumption) ?_ ?_); (focus (first | (simp; done) | (simp; omega) | omega)))))) ?_
  refine restS_take (v := ?_) 0 rfl (by kernel_rfl) (by kernel_rfl) (by kernel_rfl) (fun _ _ _ h => h) (by rfl) ?_ ?_
  rotate_left
  · intro w9 h9; try dsimp only at h9
    go_split_ands
    go_simp; try with_reducible rfl
  try simp only [Act.put, List.setIfInBounds_toArray, List.set_cons_zero, List.set_cons_succ]
  refine restS_take (v := ?_) 1 rfl (by kernel_rfl) (by kernel_rfl) (by kernel_rfl) (fun _ _ _ h => h) (by rfl) ?_ ?_
  rotate_left
  · intro w9 h9; try dsimp only at h9
    go_split_ands
    go_simp; try with_reducible rfl
  try simp only [Act.put, List.setIfInBounds_toArray, List.set_cons_zero, List.set_cons_succ]
  refine restS_take (v := ?_) 2 rfl (by kernel_rfl) (by kernel_rfl) (by kernel_rfl) (fun _ _ _ h => h) (by rfl) ?_ ?_
  rotate_left
  · intro w9 h9; try dsimp only at h9
    obtain ⟨x9, rfl⟩ := later_of h9
    go_simp; try with_reducible rfl
  try simp only [Act.put, List.setIfInBounds_toArray, List.set_cons_zero, List.set_cons_succ]
  refine restS_take (v := ?_) 3 rfl (by kernel_rfl) (by kernel_rfl) (by kernel_rfl) (fun _ _ _ h => h) (by rfl) ?_ ?_
  rotate_left
  · intro w9 h9; try dsimp only at h9
    go_split_ands
    go_simp; try with_reducible rfl
  try simp only [Act.put, List.setIfInBounds_toArray, List.set_cons_zero, List.set_cons_succ]
  refine restS_take (v := ?_) 4 rfl (by kernel_rfl) (by kernel_rfl) (by kernel_rfl) (fun _ _ _ h => h) (by rfl) ?_ ?_
  rotate_left
  · intro w9 h9; try dsimp only at h9
    go_split_ands
    go_simp; try with_reducible rfl
  try simp only [Act.put, List.setIfInBounds_toArray, List.set_cons_zero, List.set_cons_succ]
  refine restS_take (v := ?_) 5 rfl (by kernel_rfl) (by kernel_rfl) (by kernel_rfl) (fun _ _ _ h => h) (by rfl) ?_ ?_
  rotate_left
  · intro w9 h9; try dsimp only at h9
    obtain ⟨x9, rfl⟩ := later_of h9
    go_simp; try with_reducible rfl
  try simp only [Act.put, List.setIfInBounds_toArray, List.set_cons_zero, List.set_cons_succ]
  refine restS_take (v := ?_) 6 rfl (by kernel_rfl) (by kernel_rfl) (by kernel_rfl) (fun _ _ _ h => h) (by rfl) ?_ ?_
  rotate_left
  · intro w9 h9; try dsimp only at h9
    go_split_ands
    go_simp; try with_reducible rfl
  try simp only [Act.put, List.setIfInBounds_toArray, List.set_cons_zero, List.set_cons_succ]
  refine restS_take (v := ?_) 7 rfl (by kernel_rfl) (by kernel_rfl) (by kernel_rfl) (fun _ _ _ h => h) (by rfl) ?_ ?_
  rotate_left
  · intro w9 h9; try dsimp only at h9
    go_split_ands
    go_simp; try with_reducible rfl
  try simp only [Act.put, List.setIfInBounds_toArray, List.set_cons_zero, List.set_cons_succ]
  refine restS_take (v := ?_) 8 rfl (by kernel_rfl) (by kernel_rfl) (by kernel_rfl) (fun _ _ _ h => h) (by rfl) ?_ ?_
  rotate_left
  · intro w9 h9; try dsimp only at h9
    obtain ⟨x9, rfl⟩ := later_of h9
    go_simp; try with_reducible rfl
  try simp only [Act.put, List.setIfInBounds_toArray, List.set_cons_zero, List.set_cons_succ]
  refine restS_take (v := ?_) 9 rfl (by kernel_rfl) (by kernel_rfl) (by kernel_rfl) (fun _ _ _ h => h) (by rfl) ?_ ?_
  rotate_left
  · intro w9 h9; try dsimp only at h9
    go_split_ands
    go_simp; try with_reducible rfl
  try simp only [Act.put, List.setIfInBounds_toArray, List.set_cons_zero, List.set_cons_succ]
  refine restS_take (v := ?_) 10 rfl (by kernel_rfl) (by kernel_rfl) (by kernel_rfl) (fun _ _ _ h => h) (by rfl) ?_ ?_
  rotate_left
  · intro w9 h9; try dsimp only at h9
    go_split_ands
    go_simp; try with_reducible rfl
  try simp only [Act.put, List.setIfInBounds_toArray, List.set_cons_zero, List.set_cons_succ]
  refine restS_take (v := ?_) 11 rfl (by kernel_rfl) (by kernel_rfl) (by kernel_rfl) (fun _ _ _ h => h) (by rfl) ?_ ?_
  rotate_left
  · intro w9 h9; try dsimp only at h9
    obtain ⟨x9, rfl⟩ := later_of h9
    go_simp; try with_reducible rfl
  try simp only [Act.put, List.setIfInBounds_toArray, List.set_cons_zero, List.set_cons_succ]
  refine restS_take (v := ?_) 12 rfl (by kernel_rfl) (by kernel_rfl) (by kernel_rfl) (fun _ _ _ h => h) (by rfl) ?_ ?_
  rotate_left
  · intro w9 h9; try dsimp only at h9
    go_split_ands
    go_simp; try with_reducible rfl
  try simp only [Act.put, List.setIfInBounds_toArray, List.set_cons_zero, List.set_cons_succ]
  refine restS_take (v := ?_) 13 rfl (by kernel_rfl) (by kernel_rfl) (by kernel_rfl) (fun _ _ _ h => h) (by rfl) ?_ ?_
  rotate_left
  · intro w9 h9; try dsimp only at h9
    go_split_ands
    go_simp; try with_reducible rfl
  try simp only [Act.put, List.setIfInBounds_toArray, List.set_cons_zero, List.set_cons_succ]
  refine restS_two 14 16 rfl rfl (by kernel_rfl) (by rfl) (by rfl) (fun hS K hK => ?_) (fun hS K hK => ?_)
  · skip
    go_wp2_with fail
    refine (c_impl_opOf _ _ k a b x y _ (hh4.below hS)).mono ?_
    rintro e w4 ⟨rfl, hb4⟩
    go_wp2_with fail
    have hSx := bl_step hb4 hS.size hS
    replace Bz := Bz.below hb4
    replace Fz := Fz.below hb4
    refine hK.out _ _ hSx ?_
    try simp only [Act.put, List.setIfInBounds_toArray, List.set_cons_zero, List.set_cons_succ]
    clear hK K hS
    clear hSx
    refine restS_take (v := ?_) 15 rfl (by kernel_rfl) (by kernel_rfl) (by kernel_rfl) (fun _ _ _ h => h) (by rfl) ?_ ?_
    rotate_left
    · intro w9 h9; try dsimp only at h9
      go_split_ands
      go_simp; try with_reducible rfl
    try simp only [Act.put, List.setIfInBounds_toArray, List.set_cons_zero, List.set_cons_succ]
    refine restS_alone 16 rfl (by kernel_rfl) (by rfl) (fun hS K hK => ?_)
    go_wp2_with fail
    have hS4 := hS
    have Bz4 := Bz
    have Fz4 := Fz
    refine hK.out _ _ (hS.alloc hS.size (.cells ([.int .i64 0, .int .i64 0, .int .i64 0, .int .i64 0, .int .i64 0, .int .i64 0, .int .i64 0, .int .i64 0, .int .i64 0] : List Value).toArray 70)) ?_
    try simp only [Act.put, List.setIfInBounds_toArray, List.set_cons_zero, List.set_cons_succ]
    clear hK K hS
    refine restS_alone 17 rfl (by kernel_rfl) (by rfl) (fun hS K hK => ?_)
    go_wp2_with fail
    replace Bz := Bz4.alloc (.cells ([.int .i64 i, .int .i64 t, .int .i64 c, .int .i64 s, .int .i64 k, .int .i64 a, .int .i64 b, .int .i64 x, .int .i64 y] : List Value).toArray 70)
    replace Fz := Fz4.alloc (.cells ([.int .i64 i, .int .i64 t, .int .i64 c, .int .i64 s, .int .i64 k, .int .i64 a, .int .i64 b, .int .i64 x, .int .i64 y] : List Value).toArray 70)
    have By := Bx.new w4 [.int .i64 i, .int .i64 t, .int .i64 c, .int .i64 s, .int .i64 k, .int .i64 a, .int .i64 b, .int .i64 x, .int .i64 y] 70
    refine hK.out _ _ (hS4.alloc hS4.size (.cells ([.int .i64 i, .int .i64 t, .int .i64 c, .int .i64 s, .int .i64 k, .int .i64 a, .int .i64 b, .int .i64 x, .int .i64 y] : List Value).toArray 70)) ?_
    try simp only [Act.put, List.setIfInBounds_toArray, List.set_cons_zero, List.set_cons_succ]
    clear hK K hS
    refine restS_done (by kernel_rfl) (fun hS => ?_)
    have q2 := By.2
    go_wp2_with (go_at_call 156; refine (c_impl_EntryOk i t c s k a b x y _).mono ?_; rintro e w2 ⟨rfl, hb2⟩; clear q2; have q0 := (Bz.below hb2).2; have q1 := (Fz.below hb2).2; have q2 := (By.below hb2).2; have hw3 := bl_step hb2 hS.size hS; have hz2 := Nat.lt_of_lt_of_le Bz.1 hb2.size)
    refine bodyPost_ret (v := .tuple #[.agg #[.int .i64 0, .int .i64 0, .int .i64 0, .int .i64 0, .int .i64 0, .int .i64 0, .int .i64 0, .int .i64 0, .int .i64 0], .bool false]) (by simp [results, Try.results142, go_sem, *]) rfl ⟨rfl, ?_⟩
    (repeat (first | with_reducible exact Below.refl _ _ | ((with_reducible refine bl_alloc ?_ ?_); (focus (first | (simp; done) | (simp; omega) | omega))) | ((with_reducible refine bl_set ?_ ?_); (focus (first | (simp; done) | (simp; omega) | omega))) | ((with_reducible refine bl_later ?_ ?_); (focus (first | (simp; done) | (simp; omega) | omega))) | with_reducible refine bl_drew ?_ | with_reducible refine bl_drewN ?_ | ((with_reducible refine bl_step (by assumption) ?_ ?_); (focus (first | (simp; done) | (simp; omega) | omega)))))
  · skip
    go_wp2_with fail
    have By := Bx.new (w.alloc (.cells ([.int .i64 0, .int .i64 0, .int .i64 0, .int .i64 0, .int .i64 0, .int .i64 0, .int .i64 0, .int .i64 0, .int .i64 0] : List Value).toArray 70)) [.int .i64 0, .int .i64 0, .int .i64 0, .int .i64 0, .int .i64 0, .int .i64 0, .int .i64 0, .int .i64 0, .int .i64 0] 70 |>.drew
    have Fy := Fx.new (w.alloc (.cells ([.int .i64 0, .int .i64 0, .int .i64 0, .int .i64 0, .int .i64 0, .int .i64 0, .int .i64 0, .int .i64 0, .int .i64 0] : List Value).toArray 70)) [.int .i64 0, .int .i64 0, .int .i64 0, .int .i64 0, .int .i64 0, .int .i64 0, .int .i64 0, .int .i64 0, .int .i64 0] 70 |>.drew
    rw [World.size_alloc] at By Fy
    replace Bz := (Bx.new w [.int .i64 0, .int .i64 0, .int .i64 0, .int .i64 0, .int .i64 0, .int .i64 0, .int .i64 0, .int .i64 0, .int .i64 0] 70).alloc (.cells ([.int .i64 0, .int .i64 0, .int .i64 0, .int .i64 0, .int .i64 0, .int .i64 0, .int .i64 0, .int .i64 0, .int .i64 0] : List Value).toArray 70) |>.drew
    replace Fz := (Fx.new w [.int .i64 0, .int .i64 0, .int .i64 0, .int .i64 0, .int .i64 0, .int .i64 0, .int .i64 0, .int .i64 0, .int .i64 0] 70).alloc (.cells ([.int .i64 0, .int .i64 0, .int .i64 0, .int .i64 0, .int .i64 0, .int .i64 0, .int .i64 0, .int .i64 0, .int .i64 0] : List Value).toArray 70) |>.drew
    refine hK.out _ _ (by (repeat (first | with_reducible exact Below.refl _ _ | ((with_reducible refine bl_alloc ?_ ?_); (focus (first | (simp; done) | (simp; omega) | omega))) | ((with_reducible refine bl_set ?_ ?_); (focus (first | (simp; done) | (simp; omega) | omega))) | ((with_reducible refine bl_later ?_ ?_); (focus (first | (simp; done) | (simp; omega) | omega))) | with_reducible refine bl_drew ?_ | with_reducible refine bl_drewN ?_ | ((with_reducible refine bl_step (by assumption) ?_ ?_); (focus (first | (simp; done) | (simp; omega) | omega)))))) ?_
    try simp only [Act.put, List.setIfInBounds_toArray, List.set_cons_zero, List.set_cons_succ]
    clear hK K hS
    refine restS_alone 14 rfl (by kernel_rfl) (by rfl) (fun hS K hK => ?_)
    go_wp2_with fail
    refine (c_impl_opOf _ _ k a b x y _ (hh4.below hS)).mono ?_
    rintro e w4 ⟨rfl, hb4⟩
    go_wp2_with fail
    have hSx := bl_step hb4 hS.size hS
    replace Bz := Bz.below hb4
    replace Fz := Fz.below hb4
    replace By := By.below hb4
    replace Fy := Fy.below hb4
    refine hK.out _ _ hSx ?_
    try simp only [Act.put, List.setIfInBounds_toArray, List.set_cons_zero, List.set_cons_succ]
    clear hK K hS
    clear hSx
    refine restS_take (v := ?_) 15 rfl (by kernel_rfl) (by kernel_rfl) (by kernel_rfl) (fun _ _ _ h => h) (by rfl) ?_ ?_
    rotate_left
    · intro w9 h9; try dsimp only at h9
      go_split_ands
      go_simp; try with_reducible rfl
    try simp only [Act.put, List.setIfInBounds_toArray, List.set_cons_zero, List.set_cons_succ]
    refine restS_alone 17 rfl (by kernel_rfl) (by rfl) (fun hS K hK => ?_)
    have q0 := By.2
    have q1 := Fy.2
    go_wp2_with fail
    clear q0 q1
    have hS2 := hS
    replace By := By.set 0 (.int .i64 i) (by simp)
    replace Bz := Bz.setOther ⟨w.heap.size + 1, 0, none⟩ (.int .i64 i) (by simp)
    replace Fz := Fz.set ⟨w.heap.size + 1, 0, none⟩ (.int .i64 i)
    replace hS2 := hS2.setCell (p := ⟨w.heap.size + 1, 0, none⟩) (by simp) (.int .i64 i)
    replace By := By.set 1 (.int .i64 t) (by simp)
    replace Bz := Bz.setOther ⟨w.heap.size + 1, 1, none⟩ (.int .i64 t) (by simp)
    replace Fz := Fz.set ⟨w.heap.size + 1, 1, none⟩ (.int .i64 t)
    replace hS2 := hS2.setCell (p := ⟨w.heap.size + 1, 1, none⟩) (by simp) (.int .i64 t)
    replace By := By.set 2 (.int .i64 c) (by simp)
    replace Bz := Bz.setOther ⟨w.heap.size + 1, 2, none⟩ (.int .i64 c) (by simp)
    replace Fz := Fz.set ⟨w.heap.size + 1, 2, none⟩ (.int .i64 c)
    replace hS2 := hS2.setCell (p := ⟨w.heap.size + 1, 2, none⟩) (by simp) (.int .i64 c)
    replace By := By.set 3 (.int .i64 s) (by simp)
    replace Bz := Bz.setOther ⟨w.heap.size + 1, 3, none⟩ (.int .i64 s) (by simp)
    replace Fz := Fz.set ⟨w.heap.size + 1, 3, none⟩ (.int .i64 s)
    replace hS2 := hS2.setCell (p := ⟨w.heap.size + 1, 3, none⟩) (by simp) (.int .i64 s)
    replace By := By.set 4 (.int .i64 k) (by simp)
    replace Bz := Bz.setOther ⟨w.heap.size + 1, 4, none⟩ (.int .i64 k) (by simp)
    replace Fz := Fz.set ⟨w.heap.size + 1, 4, none⟩ (.int .i64 k)
    replace hS2 := hS2.setCell (p := ⟨w.heap.size + 1, 4, none⟩) (by simp) (.int .i64 k)
    replace By := By.set 5 (.int .i64 a) (by simp)
    replace Bz := Bz.setOther ⟨w.heap.size + 1, 5, none⟩ (.int .i64 a) (by simp)
    replace Fz := Fz.set ⟨w.heap.size + 1, 5, none⟩ (.int .i64 a)
    replace hS2 := hS2.setCell (p := ⟨w.heap.size + 1, 5, none⟩) (by simp) (.int .i64 a)
    replace By := By.set 6 (.int .i64 b) (by simp)
    replace Bz := Bz.setOther ⟨w.heap.size + 1, 6, none⟩ (.int .i64 b) (by simp)
    replace Fz := Fz.set ⟨w.heap.size + 1, 6, none⟩ (.int .i64 b)
    replace hS2 := hS2.setCell (p := ⟨w.heap.size + 1, 6, none⟩) (by simp) (.int .i64 b)
    replace By := By.set 7 (.int .i64 x) (by simp)
    replace Bz := Bz.setOther ⟨w.heap.size + 1, 7, none⟩ (.int .i64 x) (by simp)
    replace Fz := Fz.set ⟨w.heap.size + 1, 7, none⟩ (.int .i64 x)
    replace hS2 := hS2.setCell (p := ⟨w.heap.size + 1, 7, none⟩) (by simp) (.int .i64 x)
    replace By := By.set 8 (.int .i64 y) (by simp)
    replace Bz := Bz.setOther ⟨w.heap.size + 1, 8, none⟩ (.int .i64 y) (by simp)
    replace Fz := Fz.set ⟨w.heap.size + 1, 8, none⟩ (.int .i64 y)
    replace hS2 := hS2.setCell (p := ⟨w.heap.size + 1, 8, none⟩) (by simp) (.int .i64 y)
    simp only [List.set_cons_zero, List.set_cons_succ] at By
    refine hK.out _ _ hS2 ?_
    try simp only [Act.put, List.setIfInBounds_toArray, List.set_cons_zero, List.set_cons_succ]
    clear hK K hS
    clear hS2
    refine restS_done (by kernel_rfl) (fun hS => ?_)
    have q2 := By.2
    go_wp2_with (go_at_call 156; refine (c_impl_EntryOk i t c s k a b x y _).mono ?_; rintro e w2 ⟨rfl, hb2⟩; clear q2; have q0 := (Bz.below hb2).2; have q1 := (Fz.below hb2).2; have q2 := (By.below hb2).2; have hw3 := bl_step hb2 hS.size hS; have hz2 := Nat.lt_of_lt_of_le Bz.1 hb2.size)
    refine bodyPost_ret (v := .tuple #[.agg #[.int .i64 0, .int .i64 0, .int .i64 0, .int .i64 0, .int .i64 0, .int .i64 0, .int .i64 0, .int .i64 0, .int .i64 0], .bool false]) (by simp [results, Try.results142, go_sem, *]) rfl ⟨rfl, ?_⟩
    (repeat (first | with_reducible exact Below.refl _ _ | ((with_reducible refine bl_alloc ?_ ?_); (focus (first | (simp; done) | (simp; omega) | omega))) | ((with_reducible refine bl_set ?_ ?_); (focus (first | (simp; done) | (simp; omega) | omega))) | ((with_reducible refine bl_later ?_ ?_); (focus (first | (simp; done) | (simp; omega) | omega))) | with_reducible refine bl_drew ?_ | with_reducible refine bl_drewN ?_ | ((with_reducible refine bl_step (by assumption) ?_ ?_); (focus (first | (simp; done) | (simp; omega) | omega)))))

end Go.Proofs.Ytpfkfppooeikeaa
/- Walks of functions of the program, printed by a program of the prover. -/
namespace Go.Proofs.Ytpfkfppooeikeaa
open Go.ChangeShapes Go.WideShapes Go.ChangeAt Go.RowKit Go.Deep
set_option maxHeartbeats 1600000
set_option maxRecDepth 100000
theorem c_clos_Feed (ao : Option Addr) (cap n : Nat) (p0 p1 : Int) (r : List Int) (w : World) (hh : IntsR w ao (p0 :: p1 :: r)) (hn : n = r.length + 2) (hcap : r.length + 2 ≤ cap) (hs : r.length ≤ 1000) :
    Calls Try.prog 141 #[.slice ao n cap] w (RetFeed w p0 p1 ((chunk9 r).map entFix)) := by
  obtain ⟨i0, hi, hz0, hz1, hz2⟩ := info_parts info_int64
  obtain ⟨j0, hj, hj0, hj1, hj2⟩ := info_parts info_Entry
  subst hn
  obtain ⟨ao3, hsl, hR3⟩ := slice_low (P := Try.prog) (t := 22) Try.underlying22 hi hz1 cap 2 hh (by simp) (by simp; omega)
  have hsl2 : ∀ W, (Instr.slice 22 (.slice ao (r.length + 2) cap) (some (.int .i64 2)) none none).run Try.prog W = .ok (.slice ao3 r.length (cap - 2)) W := hsl
  simp only [List.drop_succ_cons, List.drop_zero] at hR3
  obtain ⟨b0, off, rfl, hbl, hr0, hc⟩ := hh.at (k := 0) (by simp)
  have k0 := hc 0 (by simp)
  have k1 := hc 1 (by simp)
  simp only [List.getElem_cons_zero, List.getElem_cons_succ, Nat.add_zero] at k0 k1
  clear hc hh
  have hbl1 : b0 < w.heap.size + 1 := by omega
  have hb0 : (0 : Int) < (r.length : Int) + 2 := by omega
  have hb1 : (1 : Int) < (r.length : Int) + 2 := by omega
  have HR3 := Lib.hid hR3
  have hBz := ((Bx.new w [.int .i64 0, .int .i64 0, .slice none 0 0] 44).alloc (.cells ([.int .i64 p0, .int .i64 p1, .slice none 0 0] : List Value).toArray 44)).drew
  have hFz := ((Fx.new w [.int .i64 0, .int .i64 0, .slice none 0 0] 44).alloc (.cells ([.int .i64 p0, .int .i64 p1, .slice none 0 0] : List Value).toArray 44)).drew
  have hBx := (Bx.new (w.alloc (.cells ([.int .i64 0, .int .i64 0, .slice none 0 0] : List Value).toArray 44)) [.int .i64 p0, .int .i64 p1, .slice none 0 0] 44).drew
  have hFx := (Fx.new (w.alloc (.cells ([.int .i64 0, .int .i64 0, .slice none 0 0] : List Value).toArray 44)) [.int .i64 p0, .int .i64 p1, .slice none 0 0] 44).drew
  rw [World.size_alloc] at hBx hFx
  have HBz := Lib.hid hBz
  have HFz := Lib.hid hFz
  have HBx := Lib.hid hBx
  have HFx := Lib.hid hFx
  have Hsl5 := Lib.hid hsl2
  clear hBz hFz hBx hFx hR3 hsl hsl2
  go_enter Try.func141, Try.ntmps141
  go_wp2_with fail
  refine restS_begin (fun W => Below w.heap.size w W) (by kernel_rfl) (by (repeat (first | with_reducible exact Below.refl _ _ | ((with_reducible refine bl_alloc ?_ ?_); (focus (first | (simp; done) | (simp; omega) | omega))) | ((with_reducible refine bl_set ?_ ?_); (focus (first | (simp; done) | (simp; omega) | omega))) | ((with_reducible refine bl_later ?_ ?_); (focus (first | (simp; done) | (simp; omega) | omega))) | with_reducible refine bl_drew ?_ | with_reducible refine bl_drewN ?_ | ((with_reducible refine bl_step (by assumption) ?_ ?_); (focus (first | (simp; done) | (simp; omega) | omega)))))) ?_
  refine restS_take (v := ?_) 0 rfl (by kernel_rfl) (by kernel_rfl) (by kernel_rfl) (fun _ _ _ h => h) (by rfl) ?_ ?_
  rotate_left
  · intro w9 h9; try dsimp only at h9
    go_split_ands
    go_simp; try with_reducible rfl
  try simp only [Act.put, List.setIfInBounds_toArray, List.set_cons_zero, List.set_cons_succ]
  refine restS_take (v := ?_) 1 rfl (by kernel_rfl) (by kernel_rfl) (by kernel_rfl) (fun _ _ _ h => h) (by rfl) ?_ ?_
  rotate_left
  · intro w9 h9; try dsimp only at h9
    go_split_ands
    go_simp; try with_reducible rfl
  try simp only [Act.put, List.setIfInBounds_toArray, List.set_cons_zero, List.set_cons_succ]
  refine restS_take (v := ?_) 2 rfl (by kernel_rfl) (by kernel_rfl) (by kernel_rfl) (fun _ _ _ h => h) (by rfl) ?_ ?_
  rotate_left
  · intro w9 h9; try dsimp only at h9
    obtain ⟨x9, rfl⟩ := later_of h9
    go_simp; try with_reducible rfl
  try simp only [Act.put, List.setIfInBounds_toArray, List.set_cons_zero, List.set_cons_succ]
  refine restS_take (v := ?_) 3 rfl (by kernel_rfl) (by kernel_rfl) (by kernel_rfl) (fun _ _ _ h => h) (by rfl) ?_ ?_
  rotate_left
  · intro w9 h9; try dsimp only at h9
    go_split_ands
    go_simp; try with_reducible rfl
  try simp only [Act.put, List.setIfInBounds_toArray, List.set_cons_zero, List.set_cons_succ]
  refine restS_take (v := ?_) 4 rfl (by kernel_rfl) (by kernel_rfl) (by kernel_rfl) (fun _ _ _ h => h) (by rfl) ?_ ?_
  rotate_left
  · intro w9 h9; try dsimp only at h9
    go_split_ands
    go_simp; try with_reducible rfl
  try simp only [Act.put, List.setIfInBounds_toArray, List.set_cons_zero, List.set_cons_succ]
  refine restS_take (v := ?_) 5 rfl (by kernel_rfl) (by kernel_rfl) (by kernel_rfl) (fun _ _ _ h => h) (by rfl) ?_ ?_
  rotate_left
  · intro w9 h9; try dsimp only at h9
    obtain ⟨x9, rfl⟩ := later_of h9
    go_simp; try with_reducible rfl
  try simp only [Act.put, List.setIfInBounds_toArray, List.set_cons_zero, List.set_cons_succ]
  refine restS_take (v := ?_) 6 rfl (by kernel_rfl) (by kernel_rfl) (by kernel_rfl) (fun _ _ _ h => h) (by rfl) ?_ ?_
  rotate_left
  · intro w9 h9; try dsimp only at h9
    go_split_ands
    go_simp; try with_reducible rfl
  try simp only [Act.put, List.setIfInBounds_toArray, List.set_cons_zero, List.set_cons_succ]
  refine restS_alone 7 rfl (by kernel_rfl) (by rfl) (fun hS K hK => ?_)
  go_wp2_with fail
  refine hK.out _ _ (by (repeat (first | with_reducible exact Below.refl _ _ | ((with_reducible refine bl_alloc ?_ ?_); (focus (first | (simp; done) | (simp; omega) | omega))) | ((with_reducible refine bl_set ?_ ?_); (focus (first | (simp; done) | (simp; omega) | omega))) | ((with_reducible refine bl_later ?_ ?_); (focus (first | (simp; done) | (simp; omega) | omega))) | with_reducible refine bl_drew ?_ | with_reducible refine bl_drewN ?_ | ((with_reducible refine bl_step (by assumption) ?_ ?_); (focus (first | (simp; done) | (simp; omega) | omega)))))) ?_
  try simp only [Act.put, List.setIfInBounds_toArray, List.set_cons_zero, List.set_cons_succ]
  clear hK K hS
  refine restS_alone 8 rfl (by kernel_rfl) (by rfl) (fun hS K hK => ?_)
  go_wp2_with fail
  refine hK.out _ _ (by (repeat (first | with_reducible exact Below.refl _ _ | ((with_reducible refine bl_alloc ?_ ?_); (focus (first | (simp; done) | (simp; omega) | omega))) | ((with_reducible refine bl_set ?_ ?_); (focus (first | (simp; done) | (simp; omega) | omega))) | ((with_reducible refine bl_later ?_ ?_); (focus (first | (simp; done) | (simp; omega) | omega))) | with_reducible refine bl_drew ?_ | with_reducible refine bl_drewN ?_ | ((with_reducible refine bl_step (by assumption) ?_ ?_); (focus (first | (simp; done) | (simp; omega) | omega)))))) ?_
  try simp only [Act.put, List.setIfInBounds_toArray, List.set_cons_zero, List.set_cons_succ]
  clear hK K hS
  refine restS_done (by kernel_rfl) (fun hS => ?_)
  have hsl := Hsl5.out
  go_wp2_with fail
  clear hsl
  go_loopw [4] (fun v wr => ∃ (q : List Int) (D : List (Int × Int × Int × Int × Int × Int × Int × Int × Int)) (ao2 : Option Addr) (cap2 : Nat) (ao' : Option Addr) (cap' : Nat), v = .slice ao2 q.length cap2 ∧ q.length ≤ cap2 ∧ IntsR w ao2 q ∧ Hid ((chunk9 r).map entFix = D ++ (chunk9 q).map entFix) ∧ Hid (D.length * 9 + q.length ≤ 1000) ∧ Bx wr (w.heap.size + 1) [.int .i64 p0, .int .i64 p1, .slice ao' D.length cap'] ∧ Fx wr (w.heap.size + 1) ∧ Bx wr w.heap.size [.int .i64 0, .int .i64 0, .slice none 0 0] ∧ Fx wr w.heap.size ∧ OwnA entryE wr (w.heap.size + 1 + 1) 70 (.slice ao' D.length cap') D ∧ Below w.heap.size w wr)
    (fun v _ => match v with | .slice _ m _ => m | _ => 0)
  case atStart => exact ⟨r, [], ao3, cap - 2, none, 0, rfl, by omega, HR3.out, rfl, (by show _ ≤ 1000; simp; omega), HBx.out, HFx.out, HBz.out, HFz.out, ownA_nil _ _ _ _, hS⟩
  case round =>
    obtain ⟨q, D, ao2, cap2, ao', cap', rfl, hq2, hq, Hd, HdL, hBx, hFx, hBz, hFz, hOw, hbel⟩ := hrel
    by_cases h9 : q.length < 9
    · have e : D = (chunk9 r).map entFix := by rw [Hd.out, chunk9_short h9]; simp
      subst e
      have hd : decide ((9 : Int) ≤ (q.length : Int)) = false := by simp; omega
      have q0 := hBx.2
      have q1 := hBz.2
      have q2 := hFz.2
      go_wp2_with fail
      refine bodyPost_ret (v := .agg #[.int .i64 p0, .int .i64 p1, .slice ao' ((chunk9 r).map entFix).length cap']) (by simp only [List.length_map] at *; simp [results, Try.results141, go_sem, *]) rfl ⟨ao', cap', rfl, ?_, by (repeat (first | with_reducible exact Below.refl _ _ | ((with_reducible refine bl_alloc ?_ ?_); (focus (first | (simp; done) | (simp; omega) | omega))) | ((with_reducible refine bl_set ?_ ?_); (focus (first | (simp; done) | (simp; omega) | omega))) | ((with_reducible refine bl_later ?_ ?_); (focus (first | (simp; done) | (simp; omega) | omega))) | with_reducible refine bl_drew ?_ | with_reducible refine bl_drewN ?_ | ((with_reducible refine bl_step (by assumption) ?_ ?_); (focus (first | (simp; done) | (simp; omega) | omega)))))⟩
      refine OwnA.weak (lo := w.heap.size + 1 + 1) (by omega) ?_
      repeat (first | ((with_reducible refine OwnA.set ?_ ?_); (focus (first | (simp; done) | (simp; omega) | omega))))
      exact hOw
    · obtain ⟨x0, x1, x2, x3, x4, x5, x6, x7, x8, q, rfl⟩ := cut9 (q := q) (by omega)
      obtain ⟨ao5, hsh, hR5⟩ := slice_high (P := Try.prog) (t := 22) Try.underlying22 hi hz1 cap2 9 hq (by simp) (by simpa using hq2)
      obtain ⟨ao4, hsl, hR4⟩ := slice_low (P := Try.prog) (t := 22) Try.underlying22 hi hz1 cap2 9 hq (by simp) (by simpa using hq2)
      have hsh2 : ∀ W, (Instr.slice 22 (.slice ao2 (x0 :: x1 :: x2 :: x3 :: x4 :: x5 :: x6 :: x7 :: x8 :: q).length cap2) none (some (.int .i64 9)) none).run Try.prog W = .ok (.slice ao5 9 cap2) W := hsh
      have hsl2 : ∀ W, (Instr.slice 22 (.slice ao2 (x0 :: x1 :: x2 :: x3 :: x4 :: x5 :: x6 :: x7 :: x8 :: q).length cap2) (some (.int .i64 9)) none none).run Try.prog W = .ok (.slice ao4 q.length (cap2 - 9)) W := hsl
      simp only [List.take_succ_cons, List.take_zero] at hR5
      simp only [List.drop_succ_cons, List.drop_zero] at hR4
      have hc9 : 9 ≤ cap2 := by simp only [List.length_cons] at hq2; omega
      simp only [List.length_cons] at hsh2 hsl2
      have HR5 := Lib.hid hR5
      have HR4 := Lib.hid hR4
      have hb9 : (9 : Int) ≤ (q.length : Int) + 1 + 1 + 1 + 1 + 1 + 1 + 1 + 1 + 1 := by omega
      have hDl : D.length ≤ 1000 := by have h7 := HdL.out; omega
      clear hR5 hR4 hsh hsl h9
      cases hE : entryOk x0 x1 x2 x3 x4 x5 x6 x7 x8
      · have hfix : entFix (x0, x1, x2, x3, x4, x5, x6, x7, x8) = (0, 0, 0, 0, 0, 0, 0, 0, 0) := by simp [entFix, entB, hE]
        have hOk : entryE.ok (0, 0, 0, 0, 0, 0, 0, 0, 0) := ⟨by simp [inI64], by simp [inI64], by simp [inI64], by simp [inI64], by simp [inI64], by simp [inI64], by simp [inI64], by simp [inI64], by simp [inI64]⟩
        go_wp2_with (first | (at_builtin; refine wpList_append_rows (E := entryE) rfl _ _ _ rfl (w.heap.size + 1 + 1) 70 j0 (.agg #[.int .i64 0, .int .i64 0, .int .i64 0, .int .i64 0, .int .i64 0, .int .i64 0, .int .i64 0, .int .i64 0, .int .i64 0]) 72 Try.underlying42 hj hj0 hj1 hj2 rfl (by omega) entry_one _ _ _ _ D [(0, 0, 0, 0, 0, 0, 0, 0, 0)] rfl ((hOw4.below ((Below.refl _ _).alloc (Nat.le_refl _) (.cells ([.int .i64 0, .int .i64 0, .int .i64 0, .int .i64 0, .int .i64 0, .int .i64 0, .int .i64 0, .int .i64 0, .int .i64 0] : List Value).toArray 70))).below ((Below.refl _ _).alloc (Nat.le_refl _) (.cells ([.int .i64 0, .int .i64 0, .int .i64 0, .int .i64 0, .int .i64 0, .int .i64 0, .int .i64 0, .int .i64 0, .int .i64 0] : List Value).toArray 70))) rfl (HL.out).read (by simp only [List.length_cons, List.length_nil]; omega) (by have h7 := hBx4.1; simp only [World.size_alloc]; omega) (fun a5 c5 w5 ho5 hg5 => ?_); have hlt2 := hOw4.2.2.lt; have hBx5 := ((hBx4.alloc (.cells ([.int .i64 0, .int .i64 0, .int .i64 0, .int .i64 0, .int .i64 0, .int .i64 0, .int .i64 0, .int .i64 0, .int .i64 0] : List Value).toArray 70)).alloc (.cells ([.int .i64 0, .int .i64 0, .int .i64 0, .int .i64 0, .int .i64 0, .int .i64 0, .int .i64 0, .int .i64 0, .int .i64 0] : List Value).toArray 70)).grown hg5 (fun e => by have h7 := (hlt2 _ e).1; omega); have hFx5 := ((hFx4.alloc (.cells ([.int .i64 0, .int .i64 0, .int .i64 0, .int .i64 0, .int .i64 0, .int .i64 0, .int .i64 0, .int .i64 0, .int .i64 0] : List Value).toArray 70)).alloc (.cells ([.int .i64 0, .int .i64 0, .int .i64 0, .int .i64 0, .int .i64 0, .int .i64 0, .int .i64 0, .int .i64 0, .int .i64 0] : List Value).toArray 70)).grown hg5 (fun e => by have h7 := (hlt2 _ e).1; omega); have hBz5 := ((hBz4.alloc (.cells ([.int .i64 0, .int .i64 0, .int .i64 0, .int .i64 0, .int .i64 0, .int .i64 0, .int .i64 0, .int .i64 0, .int .i64 0] : List Value).toArray 70)).alloc (.cells ([.int .i64 0, .int .i64 0, .int .i64 0, .int .i64 0, .int .i64 0, .int .i64 0, .int .i64 0, .int .i64 0, .int .i64 0] : List Value).toArray 70)).grown hg5 (fun e => by have h7 := (hlt2 _ e).1; omega); have hFz5 := ((hFz4.alloc (.cells ([.int .i64 0, .int .i64 0, .int .i64 0, .int .i64 0, .int .i64 0, .int .i64 0, .int .i64 0, .int .i64 0, .int .i64 0] : List Value).toArray 70)).alloc (.cells ([.int .i64 0, .int .i64 0, .int .i64 0, .int .i64 0, .int .i64 0, .int .i64 0, .int .i64 0, .int .i64 0, .int .i64 0] : List Value).toArray 70)).grown hg5 (fun e => by have h7 := (hlt2 _ e).1; omega); have hB5 := bl_grown hg5 (by have h7 := hbel4.size; simp only [World.size_alloc]; omega) (fun k hk => Nat.le_trans (by omega) (hlt2 k hk).1) ((hbel4.alloc hbel4.size (.cells ([.int .i64 0, .int .i64 0, .int .i64 0, .int .i64 0, .int .i64 0, .int .i64 0, .int .i64 0, .int .i64 0, .int .i64 0] : List Value).toArray 70)).alloc (by have h7 := hbel4.size; simp only [World.size_alloc]; omega) (.cells ([.int .i64 0, .int .i64 0, .int .i64 0, .int .i64 0, .int .i64 0, .int .i64 0, .int .i64 0, .int .i64 0, .int .i64 0] : List Value).toArray 70)); have q6 := hBx5.2; have q7 := hFx5.2; clear q0) | (go_at_call 142; refine (c_impl_RowEntry_f _ _ x0 x1 x2 x3 x4 x5 x6 x7 x8 _ (HR5.out.below (by (repeat (first | with_reducible exact Below.refl _ _ | ((with_reducible refine bl_alloc ?_ ?_); (focus (first | (simp; done) | (simp; omega) | omega))) | ((with_reducible refine bl_set ?_ ?_); (focus (first | (simp; done) | (simp; omega) | omega))) | ((with_reducible refine bl_later ?_ ?_); (focus (first | (simp; done) | (simp; omega) | omega))) | with_reducible refine bl_drew ?_ | with_reducible refine bl_drewN ?_ | ((with_reducible refine bl_step (by assumption) ?_ ?_); (focus (first | (simp; done) | (simp; omega) | omega))))))) (by omega) hE).mono ?_; rintro e w4 ⟨rfl, hb4⟩; have hBx4 := hBx.below hb4; have hFx4 := hFx.below hb4; have hBz4 := hBz.below hb4; have hFz4 := hFz.below hb4; have hOw4 := hOw.below hb4; have hbel4 := bl_step hb4 hbel.size hbel; have HL := Lib.hid (lit_entry w4 (.cells ([.int .i64 0, .int .i64 0, .int .i64 0, .int .i64 0, .int .i64 0, .int .i64 0, .int .i64 0, .int .i64 0, .int .i64 0] : List Value).toArray 70) 0 0 0 0 0 0 0 0 0 hOk); have q0 := hBx4.2; have hBl := hBx4.1; clear hb4))
        have hDx := hBx5.set 2 (.slice a5 (D.length + 1) c5) (by simp)
        simp only [List.set_cons_succ, List.set_cons_zero] at hDx
        go_roundw
        case rel => exact ⟨q, D ++ [(0, 0, 0, 0, 0, 0, 0, 0, 0)], ao4, cap2 - 9, a5, c5, rfl, by simp only [List.length_cons] at hq2; omega, HR4.out, (by show (chunk9 r).map entFix = _; rw [Hd.out]; simp [chunk9, hfix]), (by show _ ≤ 1000; have h7 := HdL.out; simp only [List.length_append, List.length_cons, List.length_nil] at h7 ⊢; omega), (by rw [List.length_append]; exact hDx), hFx5.set _ _, hBz5.setOther _ _ (by simp), hFz5.set _ _, ho5.set (by simp), hB5.setCell (by simp) _⟩
        case measure => simp; omega
      · have hfix : entFix (x0, x1, x2, x3, x4, x5, x6, x7, x8) = (x0, x1, x2, x3, x4, x5, x6, x7, x8) := by simp [entFix, entB, hE]
        have hOk : entryE.ok (x0, x1, x2, x3, x4, x5, x6, x7, x8) := ⟨hq.1 _ (by simp), hq.1 _ (by simp), hq.1 _ (by simp), hq.1 _ (by simp), hq.1 _ (by simp), hq.1 _ (by simp), hq.1 _ (by simp), hq.1 _ (by simp), hq.1 _ (by simp)⟩
        go_wp2_with (first | (at_builtin; refine wpList_append_rows (E := entryE) rfl _ _ _ rfl (w.heap.size + 1 + 1) 70 j0 (.agg #[.int .i64 0, .int .i64 0, .int .i64 0, .int .i64 0, .int .i64 0, .int .i64 0, .int .i64 0, .int .i64 0, .int .i64 0]) 72 Try.underlying42 hj hj0 hj1 hj2 rfl (by omega) entry_one _ _ _ _ D [(x0, x1, x2, x3, x4, x5, x6, x7, x8)] rfl ((hOw4.below ((Below.refl _ _).alloc (Nat.le_refl _) (.cells ([.int .i64 x0, .int .i64 x1, .int .i64 x2, .int .i64 x3, .int .i64 x4, .int .i64 x5, .int .i64 x6, .int .i64 x7, .int .i64 x8] : List Value).toArray 70))).below ((Below.refl _ _).alloc (Nat.le_refl _) (.cells ([.int .i64 x0, .int .i64 x1, .int .i64 x2, .int .i64 x3, .int .i64 x4, .int .i64 x5, .int .i64 x6, .int .i64 x7, .int .i64 x8] : List Value).toArray 70))) rfl (HL.out).read (by simp only [List.length_cons, List.length_nil]; omega) (by have h7 := hBx4.1; simp only [World.size_alloc]; omega) (fun a5 c5 w5 ho5 hg5 => ?_); have hlt2 := hOw4.2.2.lt; have hBx5 := ((hBx4.alloc (.cells ([.int .i64 x0, .int .i64 x1, .int .i64 x2, .int .i64 x3, .int .i64 x4, .int .i64 x5, .int .i64 x6, .int .i64 x7, .int .i64 x8] : List Value).toArray 70)).alloc (.cells ([.int .i64 x0, .int .i64 x1, .int .i64 x2, .int .i64 x3, .int .i64 x4, .int .i64 x5, .int .i64 x6, .int .i64 x7, .int .i64 x8] : List Value).toArray 70)).grown hg5 (fun e => by have h7 := (hlt2 _ e).1; omega); have hFx5 := ((hFx4.alloc (.cells ([.int .i64 x0, .int .i64 x1, .int .i64 x2, .int .i64 x3, .int .i64 x4, .int .i64 x5, .int .i64 x6, .int .i64 x7, .int .i64 x8] : List Value).toArray 70)).alloc (.cells ([.int .i64 x0, .int .i64 x1, .int .i64 x2, .int .i64 x3, .int .i64 x4, .int .i64 x5, .int .i64 x6, .int .i64 x7, .int .i64 x8] : List Value).toArray 70)).grown hg5 (fun e => by have h7 := (hlt2 _ e).1; omega); have hBz5 := ((hBz4.alloc (.cells ([.int .i64 x0, .int .i64 x1, .int .i64 x2, .int .i64 x3, .int .i64 x4, .int .i64 x5, .int .i64 x6, .int .i64 x7, .int .i64 x8] : List Value).toArray 70)).alloc (.cells ([.int .i64 x0, .int .i64 x1, .int .i64 x2, .int .i64 x3, .int .i64 x4, .int .i64 x5, .int .i64 x6, .int .i64 x7, .int .i64 x8] : List Value).toArray 70)).grown hg5 (fun e => by have h7 := (hlt2 _ e).1; omega); have hFz5 := ((hFz4.alloc (.cells ([.int .i64 x0, .int .i64 x1, .int .i64 x2, .int .i64 x3, .int .i64 x4, .int .i64 x5, .int .i64 x6, .int .i64 x7, .int .i64 x8] : List Value).toArray 70)).alloc (.cells ([.int .i64 x0, .int .i64 x1, .int .i64 x2, .int .i64 x3, .int .i64 x4, .int .i64 x5, .int .i64 x6, .int .i64 x7, .int .i64 x8] : List Value).toArray 70)).grown hg5 (fun e => by have h7 := (hlt2 _ e).1; omega); have hB5 := bl_grown hg5 (by have h7 := hbel4.size; simp only [World.size_alloc]; omega) (fun k hk => Nat.le_trans (by omega) (hlt2 k hk).1) ((hbel4.alloc hbel4.size (.cells ([.int .i64 x0, .int .i64 x1, .int .i64 x2, .int .i64 x3, .int .i64 x4, .int .i64 x5, .int .i64 x6, .int .i64 x7, .int .i64 x8] : List Value).toArray 70)).alloc (by have h7 := hbel4.size; simp only [World.size_alloc]; omega) (.cells ([.int .i64 x0, .int .i64 x1, .int .i64 x2, .int .i64 x3, .int .i64 x4, .int .i64 x5, .int .i64 x6, .int .i64 x7, .int .i64 x8] : List Value).toArray 70)); have q6 := hBx5.2; have q7 := hFx5.2; clear q0) | (go_at_call 142; refine (c_impl_RowEntry_t _ _ x0 x1 x2 x3 x4 x5 x6 x7 x8 _ (HR5.out.below (by (repeat (first | with_reducible exact Below.refl _ _ | ((with_reducible refine bl_alloc ?_ ?_); (focus (first | (simp; done) | (simp; omega) | omega))) | ((with_reducible refine bl_set ?_ ?_); (focus (first | (simp; done) | (simp; omega) | omega))) | ((with_reducible refine bl_later ?_ ?_); (focus (first | (simp; done) | (simp; omega) | omega))) | with_reducible refine bl_drew ?_ | with_reducible refine bl_drewN ?_ | ((with_reducible refine bl_step (by assumption) ?_ ?_); (focus (first | (simp; done) | (simp; omega) | omega))))))) (by omega) hE).mono ?_; rintro e w4 ⟨rfl, hb4⟩; have hBx4 := hBx.below hb4; have hFx4 := hFx.below hb4; have hBz4 := hBz.below hb4; have hFz4 := hFz.below hb4; have hOw4 := hOw.below hb4; have hbel4 := bl_step hb4 hbel.size hbel; have HL := Lib.hid (lit_entry w4 (.cells ([.int .i64 x0, .int .i64 x1, .int .i64 x2, .int .i64 x3, .int .i64 x4, .int .i64 x5, .int .i64 x6, .int .i64 x7, .int .i64 x8] : List Value).toArray 70) x0 x1 x2 x3 x4 x5 x6 x7 x8 hOk); have q0 := hBx4.2; have hBl := hBx4.1; clear hb4))
        have hDx := hBx5.set 2 (.slice a5 (D.length + 1) c5) (by simp)
        simp only [List.set_cons_succ, List.set_cons_zero] at hDx
        go_roundw
        case rel => exact ⟨q, D ++ [(x0, x1, x2, x3, x4, x5, x6, x7, x8)], ao4, cap2 - 9, a5, c5, rfl, by simp only [List.length_cons] at hq2; omega, HR4.out, (by show (chunk9 r).map entFix = _; rw [Hd.out]; simp [chunk9, hfix]), (by show _ ≤ 1000; have h7 := HdL.out; simp only [List.length_append, List.length_cons, List.length_nil] at h7 ⊢; omega), (by rw [List.length_append]; exact hDx), hFx5.set _ _, hBz5.setOther _ _ (by simp), hFz5.set _ _, ho5.set (by simp), hB5.setCell (by simp) _⟩
        case measure => simp; omega

end Go.Proofs.Ytpfkfppooeikeaa
/- Walks of functions of the program, printed by a program of the prover. -/
namespace Go.Proofs.Ytpfkfppooeikeaa
open Go.ChangeShapes Go.WideShapes Go.ChangeAt Go.RowKit Go.Deep
set_option maxHeartbeats 1600000
set_option maxRecDepth 100000
theorem c_spec_RowOp_f (ao : Option Addr) (cap : Nat) (k a b x y : Int) (w : World) (hh : IntsR w ao [k, a, b, x, y]) (hO : opOk k a b x y = false) :
    Calls Try.prog 126 #[.slice ao 5 cap] w fun e w' => e = .returned (.tuple #[.agg #[.int .i64 0, .int .i64 0, .int .i64 0, .int .i64 0, .int .i64 0], .bool false]) ∧ Below w.heap.size w w' := by
  obtain ⟨b0, off, rfl, hbl, hr0, hc⟩ := hh.at (k := 0) (by simp)
  have k0 := hc 0 (by simp)
  have k1 := hc 1 (by simp)
  have k2 := hc 2 (by simp)
  have k3 := hc 3 (by simp)
  have k4 := hc 4 (by simp)
  simp only [List.getElem_cons_zero, List.getElem_cons_succ, Nat.add_zero] at k0 k1 k2 k3 k4
  clear hc hh
  have hbl1 : b0 < w.heap.size + 1 := by omega
  go_enter Try.func126, Try.ntmps126
  go_wp2_with fail
  refine restS_begin (fun W => Below w.heap.size w W) (by kernel_rfl) (by (repeat (first | with_reducible exact Below.refl _ _ | ((with_reducible refine bl_alloc ?_ ?_); (focus (first | (simp; done) | (simp; omega) | omega))) | ((with_reducible refine bl_set ?_ ?_); (focus (first | (simp; done) | (simp; omega) | omega))) | ((with_reducible refine bl_later ?_ ?_); (focus (first | (simp; done) | (simp; omega) | omega))) | with_reducible refine bl_drew ?_ | with_reducible refine bl_drewN ?_ | ((with_reducible refine bl_step (by assumption) ?_ ?_); (focus (first | (simp; done) | (simp; omega) | omega)))))) ?_
  refine restS_take (v := ?_) 0 rfl (by kernel_rfl) (by kernel_rfl) (by kernel_rfl) (fun _ _ _ h => h) (by rfl) ?_ ?_
  rotate_left
  · intro w9 h9; try dsimp only at h9
    go_split_ands
    go_simp; try with_reducible rfl
  try simp only [Act.put, List.setIfInBounds_toArray, List.set_cons_zero, List.set_cons_succ]
  refine restS_take (v := ?_) 1 rfl (by kernel_rfl) (by kernel_rfl) (by kernel_rfl) (fun _ _ _ h => h) (by rfl) ?_ ?_
  rotate_left
  · intro w9 h9; try dsimp only at h9
    go_split_ands
    go_simp; try with_reducible rfl
  try simp only [Act.put, List.setIfInBounds_toArray, List.set_cons_zero, List.set_cons_succ]
  refine restS_take (v := ?_) 2 rfl (by kernel_rfl) (by kernel_rfl) (by kernel_rfl) (fun _ _ _ h => h) (by rfl) ?_ ?_
  rotate_left
  · intro w9 h9; try dsimp only at h9
    obtain ⟨x9, rfl⟩ := later_of h9
    go_simp; try with_reducible rfl
  try simp only [Act.put, List.setIfInBounds_toArray, List.set_cons_zero, List.set_cons_succ]
  refine restS_take (v := ?_) 3 rfl (by kernel_rfl) (by kernel_rfl) (by kernel_rfl) (fun _ _ _ h => h) (by rfl) ?_ ?_
  rotate_left
  · intro w9 h9; try dsimp only at h9
    go_split_ands
    go_simp; try with_reducible rfl
  try simp only [Act.put, List.setIfInBounds_toArray, List.set_cons_zero, List.set_cons_succ]
  refine restS_take (v := ?_) 4 rfl (by kernel_rfl) (by kernel_rfl) (by kernel_rfl) (fun _ _ _ h => h) (by rfl) ?_ ?_
  rotate_left
  · intro w9 h9; try dsimp only at h9
    go_split_ands
    go_simp; try with_reducible rfl
  try simp only [Act.put, List.setIfInBounds_toArray, List.set_cons_zero, List.set_cons_succ]
  refine restS_take (v := ?_) 5 rfl (by kernel_rfl) (by kernel_rfl) (by kernel_rfl) (fun _ _ _ h => h) (by rfl) ?_ ?_
  rotate_left
  · intro w9 h9; try dsimp only at h9
    obtain ⟨x9, rfl⟩ := later_of h9
    go_simp; try with_reducible rfl
  try simp only [Act.put, List.setIfInBounds_toArray, List.set_cons_zero, List.set_cons_succ]
  refine restS_take (v := ?_) 6 rfl (by kernel_rfl) (by kernel_rfl) (by kernel_rfl) (fun _ _ _ h => h) (by rfl) ?_ ?_
  rotate_left
  · intro w9 h9; try dsimp only at h9
    go_split_ands
    go_simp; try with_reducible rfl
  try simp only [Act.put, List.setIfInBounds_toArray, List.set_cons_zero, List.set_cons_succ]
  refine restS_take (v := ?_) 7 rfl (by kernel_rfl) (by kernel_rfl) (by kernel_rfl) (fun _ _ _ h => h) (by rfl) ?_ ?_
  rotate_left
  · intro w9 h9; try dsimp only at h9
    go_split_ands
    go_simp; try with_reducible rfl
  try simp only [Act.put, List.setIfInBounds_toArray, List.set_cons_zero, List.set_cons_succ]
  refine restS_take (v := ?_) 8 rfl (by kernel_rfl) (by kernel_rfl) (by kernel_rfl) (fun _ _ _ h => h) (by rfl) ?_ ?_
  rotate_left
  · intro w9 h9; try dsimp only at h9
    obtain ⟨x9, rfl⟩ := later_of h9
    go_simp; try with_reducible rfl
  try simp only [Act.put, List.setIfInBounds_toArray, List.set_cons_zero, List.set_cons_succ]
  refine restS_take (v := ?_) 9 rfl (by kernel_rfl) (by kernel_rfl) (by kernel_rfl) (fun _ _ _ h => h) (by rfl) ?_ ?_
  rotate_left
  · intro w9 h9; try dsimp only at h9
    go_split_ands
    go_simp; try with_reducible rfl
  try simp only [Act.put, List.setIfInBounds_toArray, List.set_cons_zero, List.set_cons_succ]
  refine restS_take (v := ?_) 10 rfl (by kernel_rfl) (by kernel_rfl) (by kernel_rfl) (fun _ _ _ h => h) (by rfl) ?_ ?_
  rotate_left
  · intro w9 h9; try dsimp only at h9
    go_split_ands
    go_simp; try with_reducible rfl
  try simp only [Act.put, List.setIfInBounds_toArray, List.set_cons_zero, List.set_cons_succ]
  refine restS_take (v := ?_) 11 rfl (by kernel_rfl) (by kernel_rfl) (by kernel_rfl) (fun _ _ _ h => h) (by rfl) ?_ ?_
  rotate_left
  · intro w9 h9; try dsimp only at h9
    obtain ⟨x9, rfl⟩ := later_of h9
    go_simp; try with_reducible rfl
  try simp only [Act.put, List.setIfInBounds_toArray, List.set_cons_zero, List.set_cons_succ]
  refine restS_take (v := ?_) 12 rfl (by kernel_rfl) (by kernel_rfl) (by kernel_rfl) (fun _ _ _ h => h) (by rfl) ?_ ?_
  rotate_left
  · intro w9 h9; try dsimp only at h9
    go_split_ands
    go_simp; try with_reducible rfl
  try simp only [Act.put, List.setIfInBounds_toArray, List.set_cons_zero, List.set_cons_succ]
  refine restS_take (v := ?_) 13 rfl (by kernel_rfl) (by kernel_rfl) (by kernel_rfl) (fun _ _ _ h => h) (by rfl) ?_ ?_
  rotate_left
  · intro w9 h9; try dsimp only at h9
    go_split_ands
    go_simp; try with_reducible rfl
  try simp only [Act.put, List.setIfInBounds_toArray, List.set_cons_zero, List.set_cons_succ]
  refine restS_take (v := ?_) 14 rfl (by kernel_rfl) (by kernel_rfl) (by kernel_rfl) (fun _ _ _ h => h) (by rfl) ?_ ?_
  rotate_left
  · intro w9 h9; try dsimp only at h9
    obtain ⟨x9, rfl⟩ := later_of h9
    go_simp; try with_reducible rfl
  try simp only [Act.put, List.setIfInBounds_toArray, List.set_cons_zero, List.set_cons_succ]
  refine restS_take (v := ?_) 15 rfl (by kernel_rfl) (by kernel_rfl) (by kernel_rfl) (fun _ _ _ h => h) (by rfl) ?_ ?_
  rotate_left
  · intro w9 h9; try dsimp only at h9
    go_split_ands
    go_simp; try with_reducible rfl
  try simp only [Act.put, List.setIfInBounds_toArray, List.set_cons_zero, List.set_cons_succ]
  refine restS_alone 16 rfl (by kernel_rfl) (by rfl) (fun hS K hK => ?_)
  go_wp2_with fail
  refine hK.out _ _ (by (repeat (first | with_reducible exact Below.refl _ _ | ((with_reducible refine bl_alloc ?_ ?_); (focus (first | (simp; done) | (simp; omega) | omega))) | ((with_reducible refine bl_set ?_ ?_); (focus (first | (simp; done) | (simp; omega) | omega))) | ((with_reducible refine bl_later ?_ ?_); (focus (first | (simp; done) | (simp; omega) | omega))) | with_reducible refine bl_drew ?_ | with_reducible refine bl_drewN ?_ | ((with_reducible refine bl_step (by assumption) ?_ ?_); (focus (first | (simp; done) | (simp; omega) | omega)))))) ?_
  try simp only [Act.put, List.setIfInBounds_toArray, List.set_cons_zero, List.set_cons_succ]
  clear hK K hS
  refine restS_alone 17 rfl (by kernel_rfl) (by rfl) (fun hS K hK => ?_)
  go_wp2_with fail
  refine hK.out _ _ (by (repeat (first | with_reducible exact Below.refl _ _ | ((with_reducible refine bl_alloc ?_ ?_); (focus (first | (simp; done) | (simp; omega) | omega))) | ((with_reducible refine bl_set ?_ ?_); (focus (first | (simp; done) | (simp; omega) | omega))) | ((with_reducible refine bl_later ?_ ?_); (focus (first | (simp; done) | (simp; omega) | omega))) | with_reducible refine bl_drew ?_ | with_reducible refine bl_drewN ?_ | ((with_reducible refine bl_step (by assumption) ?_ ?_); (focus (first | (simp; done) | (simp; omega) | omega)))))) ?_
  try simp only [Act.put, List.setIfInBounds_toArray, List.set_cons_zero, List.set_cons_succ]
  clear hK K hS
  refine restS_done (by kernel_rfl) (fun hS => ?_)
  clear hS
  go_wp2_with (go_at_call 160; refine (c_spec_OpOk _ _ _ _ _ _).mono ?_; rintro e w1 ⟨rfl, hb⟩; obtain ⟨hc, hf, hsz⟩ := bcell hb; have hz := hb.size; (try simp at hz); have q0 := (((Bx.new w [.int .i64 0, .int .i64 0, .int .i64 0, .int .i64 0, .int .i64 0] 68).alloc (.cells #[.int .i64 k, .int .i64 a, .int .i64 b, .int .i64 x, .int .i64 y] 68)).drew.below hb).2; have q1 := ((Bx.new (w.alloc (.cells #[.int .i64 0, .int .i64 0, .int .i64 0, .int .i64 0, .int .i64 0] 68)) [.int .i64 k, .int .i64 a, .int .i64 b, .int .i64 x, .int .i64 y] 68).drew.below hb).2; rw [World.size_alloc] at q1; clear hc)
  refine bodyPost_ret (v := .tuple #[.agg #[.int .i64 0, .int .i64 0, .int .i64 0, .int .i64 0, .int .i64 0], .bool false]) (by simp [results, Try.results126, go_sem, *]) rfl ⟨rfl, ?_⟩
  (repeat (first | with_reducible exact Below.refl _ _ | ((with_reducible refine bl_alloc ?_ ?_); (focus (first | (simp; done) | (simp; omega) | omega))) | ((with_reducible refine bl_set ?_ ?_); (focus (first | (simp; done) | (simp; omega) | omega))) | ((with_reducible refine bl_later ?_ ?_); (focus (first | (simp; done) | (simp; omega) | omega))) | with_reducible refine bl_drew ?_ | with_reducible refine bl_drewN ?_ | ((with_reducible refine bl_step (by assumption) ?_ ?_); (focus (first | (simp; done) | (simp; omega) | omega)))))
theorem c_spec_RowOp_t (ao : Option Addr) (cap : Nat) (k a b x y : Int) (w : World) (hh : IntsR w ao [k, a, b, x, y]) (hO : opOk k a b x y = true) :
    Calls Try.prog 126 #[.slice ao 5 cap] w fun e w' => e = .returned (.tuple #[.agg #[.int .i64 k, .int .i64 a, .int .i64 b, .int .i64 x, .int .i64 y], .bool true]) ∧ Below w.heap.size w w' := by
  obtain ⟨b0, off, rfl, hbl, hr0, hc⟩ := hh.at (k := 0) (by simp)
  have k0 := hc 0 (by simp)
  have k1 := hc 1 (by simp)
  have k2 := hc 2 (by simp)
  have k3 := hc 3 (by simp)
  have k4 := hc 4 (by simp)
  simp only [List.getElem_cons_zero, List.getElem_cons_succ, Nat.add_zero] at k0 k1 k2 k3 k4
  clear hc hh
  have hbl1 : b0 < w.heap.size + 1 := by omega
  go_enter Try.func126, Try.ntmps126
  go_wp2_with fail
  refine restS_begin (fun W => Below w.heap.size w W) (by kernel_rfl) (by (repeat (first | with_reducible exact Below.refl _ _ | ((with_reducible refine bl_alloc ?_ ?_); (focus (first | (simp; done) | (simp; omega) | omega))) | ((with_reducible refine bl_set ?_ ?_); (focus (first | (simp; done) | (simp; omega) | omega))) | ((with_reducible refine bl_later ?_ ?_); (focus (first | (simp; done) | (simp; omega) | omega))) | with_reducible refine bl_drew ?_ | with_reducible refine bl_drewN ?_ | ((with_reducible refine bl_step (by assumption) ?_ ?_); (focus (first | (simp; done) | (simp; omega) | omega)))))) ?_
  refine restS_take (v := ?_) 0 rfl (by kernel_rfl) (by kernel_rfl) (by kernel_rfl) (fun _ _ _ h => h) (by rfl) ?_ ?_
  rotate_left
  · intro w9 h9; try dsimp only at h9
    go_split_ands
    go_simp; try with_reducible rfl
  try simp only [Act.put, List.setIfInBounds_toArray, List.set_cons_zero, List.set_cons_succ]
  refine restS_take (v := ?_) 1 rfl (by kernel_rfl) (by kernel_rfl) (by kernel_rfl) (fun _ _ _ h => h) (by rfl) ?_ ?_
  rotate_left
  · intro w9 h9; try dsimp only at h9
    go_split_ands
    go_simp; try with_reducible rfl
  try simp only [Act.put, List.setIfInBounds_toArray, List.set_cons_zero, List.set_cons_succ]
  refine restS_take (v := ?_) 2 rfl (by kernel_rfl) (by kernel_rfl) (by kernel_rfl) (fun _ _ _ h => h) (by rfl) ?_ ?_
  rotate_left
  · intro w9 h9; try dsimp only at h9
    obtain ⟨x9, rfl⟩ := later_of h9
    go_simp; try with_reducible rfl
  try simp only [Act.put, List.setIfInBounds_toArray, List.set_cons_zero, List.set_cons_succ]
  refine restS_take (v := ?_) 3 rfl (by kernel_rfl) (by kernel_rfl) (by kernel_rfl) (fun _ _ _ h => h) (by rfl) ?_ ?_
  rotate_left
  · intro w9 h9; try dsimp only at h9
    go_split_ands
    go_simp; try with_reducible rfl
  try simp only [Act.put, List.setIfInBounds_toArray, List.set_cons_zero, List.set_cons_succ]
  refine restS_take (v := ?_) 4 rfl (by kernel_rfl) (by kernel_rfl) (by kernel_rfl) (fun _ _ _ h => h) (by rfl) ?_ ?_
  rotate_left
  · intro w9 h9; try dsimp only at h9
    go_split_ands
    go_simp; try with_reducible rfl
  try simp only [Act.put, List.setIfInBounds_toArray, List.set_cons_zero, List.set_cons_succ]
  refine restS_take (v := ?_) 5 rfl (by kernel_rfl) (by kernel_rfl) (by kernel_rfl) (fun _ _ _ h => h) (by rfl) ?_ ?_
  rotate_left
  · intro w9 h9; try dsimp only at h9
    obtain ⟨x9, rfl⟩ := later_of h9
    go_simp; try with_reducible rfl
  try simp only [Act.put, List.setIfInBounds_toArray, List.set_cons_zero, List.set_cons_succ]
  refine restS_take (v := ?_) 6 rfl (by kernel_rfl) (by kernel_rfl) (by kernel_rfl) (fun _ _ _ h => h) (by rfl) ?_ ?_
  rotate_left
  · intro w9 h9; try dsimp only at h9
    go_split_ands
    go_simp; try with_reducible rfl
  try simp only [Act.put, List.setIfInBounds_toArray, List.set_cons_zero, List.set_cons_succ]
  refine restS_take (v := ?_) 7 rfl (by kernel_rfl) (by kernel_rfl) (by kernel_rfl) (fun _ _ _ h => h) (by rfl) ?_ ?_
  rotate_left
  · intro w9 h9; try dsimp only at h9
    go_split_ands
    go_simp; try with_reducible rfl
  try simp only [Act.put, List.setIfInBounds_toArray, List.set_cons_zero, List.set_cons_succ]
  refine restS_take (v := ?_) 8 rfl (by kernel_rfl) (by kernel_rfl) (by kernel_rfl) (fun _ _ _ h => h) (by rfl) ?_ ?_
  rotate_left
  · intro w9 h9; try dsimp only at h9
    obtain ⟨x9, rfl⟩ := later_of h9
    go_simp; try with_reducible rfl
  try simp only [Act.put, List.setIfInBounds_toArray, List.set_cons_zero, List.set_cons_succ]
  refine restS_take (v := ?_) 9 rfl (by kernel_rfl) (by kernel_rfl) (by kernel_rfl) (fun _ _ _ h => h) (by rfl) ?_ ?_
  rotate_left
  · intro w9 h9; try dsimp only at h9
    go_split_ands
    go_simp; try with_reducible rfl
  try simp only [Act.put, List.setIfInBounds_toArray, List.set_cons_zero, List.set_cons_succ]
  refine restS_take (v := ?_) 10 rfl (by kernel_rfl) (by kernel_rfl) (by kernel_rfl) (fun _ _ _ h => h) (by rfl) ?_ ?_
  rotate_left
  · intro w9 h9; try dsimp only at h9
    go_split_ands
    go_simp; try with_reducible rfl
  try simp only [Act.put, List.setIfInBounds_toArray, List.set_cons_zero, List.set_cons_succ]
  refine restS_take (v := ?_) 11 rfl (by kernel_rfl) (by kernel_rfl) (by kernel_rfl) (fun _ _ _ h => h) (by rfl) ?_ ?_
  rotate_left
  · intro w9 h9; try dsimp only at h9
    obtain ⟨x9, rfl⟩ := later_of h9
    go_simp; try with_reducible rfl
  try simp only [Act.put, List.setIfInBounds_toArray, List.set_cons_zero, List.set_cons_succ]
  refine restS_take (v := ?_) 12 rfl (by kernel_rfl) (by kernel_rfl) (by kernel_rfl) (fun _ _ _ h => h) (by rfl) ?_ ?_
  rotate_left
  · intro w9 h9; try dsimp only at h9
    go_split_ands
    go_simp; try with_reducible rfl
  try simp only [Act.put, List.setIfInBounds_toArray, List.set_cons_zero, List.set_cons_succ]
  refine restS_take (v := ?_) 13 rfl (by kernel_rfl) (by kernel_rfl) (by kernel_rfl) (fun _ _ _ h => h) (by rfl) ?_ ?_
  rotate_left
  · intro w9 h9; try dsimp only at h9
    go_split_ands
    go_simp; try with_reducible rfl
  try simp only [Act.put, List.setIfInBounds_toArray, List.set_cons_zero, List.set_cons_succ]
  refine restS_take (v := ?_) 14 rfl (by kernel_rfl) (by kernel_rfl) (by kernel_rfl) (fun _ _ _ h => h) (by rfl) ?_ ?_
  rotate_left
  · intro w9 h9; try dsimp only at h9
    obtain ⟨x9, rfl⟩ := later_of h9
    go_simp; try with_reducible rfl
  try simp only [Act.put, List.setIfInBounds_toArray, List.set_cons_zero, List.set_cons_succ]
  refine restS_take (v := ?_) 15 rfl (by kernel_rfl) (by kernel_rfl) (by kernel_rfl) (fun _ _ _ h => h) (by rfl) ?_ ?_
  rotate_left
  · intro w9 h9; try dsimp only at h9
    go_split_ands
    go_simp; try with_reducible rfl
  try simp only [Act.put, List.setIfInBounds_toArray, List.set_cons_zero, List.set_cons_succ]
  refine restS_alone 16 rfl (by kernel_rfl) (by rfl) (fun hS K hK => ?_)
  go_wp2_with fail
  refine hK.out _ _ (by (repeat (first | with_reducible exact Below.refl _ _ | ((with_reducible refine bl_alloc ?_ ?_); (focus (first | (simp; done) | (simp; omega) | omega))) | ((with_reducible refine bl_set ?_ ?_); (focus (first | (simp; done) | (simp; omega) | omega))) | ((with_reducible refine bl_later ?_ ?_); (focus (first | (simp; done) | (simp; omega) | omega))) | with_reducible refine bl_drew ?_ | with_reducible refine bl_drewN ?_ | ((with_reducible refine bl_step (by assumption) ?_ ?_); (focus (first | (simp; done) | (simp; omega) | omega)))))) ?_
  try simp only [Act.put, List.setIfInBounds_toArray, List.set_cons_zero, List.set_cons_succ]
  clear hK K hS
  refine restS_alone 17 rfl (by kernel_rfl) (by rfl) (fun hS K hK => ?_)
  go_wp2_with fail
  refine hK.out _ _ (by (repeat (first | with_reducible exact Below.refl _ _ | ((with_reducible refine bl_alloc ?_ ?_); (focus (first | (simp; done) | (simp; omega) | omega))) | ((with_reducible refine bl_set ?_ ?_); (focus (first | (simp; done) | (simp; omega) | omega))) | ((with_reducible refine bl_later ?_ ?_); (focus (first | (simp; done) | (simp; omega) | omega))) | with_reducible refine bl_drew ?_ | with_reducible refine bl_drewN ?_ | ((with_reducible refine bl_step (by assumption) ?_ ?_); (focus (first | (simp; done) | (simp; omega) | omega)))))) ?_
  try simp only [Act.put, List.setIfInBounds_toArray, List.set_cons_zero, List.set_cons_succ]
  clear hK K hS
  refine restS_done (by kernel_rfl) (fun hS => ?_)
  clear hS
  go_wp2_with (go_at_call 160; refine (c_spec_OpOk _ _ _ _ _ _).mono ?_; rintro e w1 ⟨rfl, hb⟩; obtain ⟨hc, hf, hsz⟩ := bcell hb; have hz := hb.size; (try simp at hz); have q0 := (((Bx.new w [.int .i64 0, .int .i64 0, .int .i64 0, .int .i64 0, .int .i64 0] 68).alloc (.cells #[.int .i64 k, .int .i64 a, .int .i64 b, .int .i64 x, .int .i64 y] 68)).drew.below hb).2; have q1 := ((Bx.new (w.alloc (.cells #[.int .i64 0, .int .i64 0, .int .i64 0, .int .i64 0, .int .i64 0] 68)) [.int .i64 k, .int .i64 a, .int .i64 b, .int .i64 x, .int .i64 y] 68).drew.below hb).2; rw [World.size_alloc] at q1; clear hc)
  refine bodyPost_ret (v := .tuple #[.agg #[.int .i64 k, .int .i64 a, .int .i64 b, .int .i64 x, .int .i64 y], .bool true]) (by simp [results, Try.results126, go_sem, *]) rfl ⟨rfl, ?_⟩
  (repeat (first | with_reducible exact Below.refl _ _ | ((with_reducible refine bl_alloc ?_ ?_); (focus (first | (simp; done) | (simp; omega) | omega))) | ((with_reducible refine bl_set ?_ ?_); (focus (first | (simp; done) | (simp; omega) | omega))) | ((with_reducible refine bl_later ?_ ?_); (focus (first | (simp; done) | (simp; omega) | omega))) | with_reducible refine bl_drew ?_ | with_reducible refine bl_drewN ?_ | ((with_reducible refine bl_step (by assumption) ?_ ?_); (focus (first | (simp; done) | (simp; omega) | omega)))))
def isAsk (l : List Int) : Bool := isB l 1 8 && (askOk (l.getD 1 0) (l.getD 2 0) (l.getD 3 0) (l.getD 4 0) (l.getD 5 0) (l.getD 6 0) (l.getD 7 0))
def partsAsk (l : List Int) : List Int := if isAsk l then l.tail else [0, 0, 0, 0, 0, 0, 0]
theorem c_spec_RowAsk (ao : Option Addr) (cap : Nat) (l : List Int) (w : World) (hh : IntsR w ao l) (hcap : l.length ≤ cap) :
    Calls Try.prog 72 #[.slice ao l.length cap] w fun e w' => e = .returned (.tuple #[.agg ((partsAsk l).map (Value.int .i64)).toArray, .bool (isAsk l)]) ∧ Below w.heap.size w w' := by
  have hm := hh.2.1
  have h' : ∀ W, Below w.heap.size w W → IntsR W ao l := fun W hb => hh.below hb
  cases hi1 : isB l 1 8
  · have e1 : isAsk l = false := by simp [isAsk, hi1]
    have e2 : partsAsk l = [0, 0, 0, 0, 0, 0, 0] := by simp [partsAsk, e1]
    rw [e1, e2]
    simp only [List.map_cons, List.map_nil]
    go_enter Try.func72, Try.ntmps72
    go_wp2_with (go_at_call 116; refine (c_spec_l11Is _ _ 8 _ _ _ (h' _ (by (repeat (first | with_reducible exact Below.refl _ _ | ((with_reducible refine bl_alloc ?_ ?_); (focus (first | (simp; done) | (simp; omega) | omega))) | ((with_reducible refine bl_set ?_ ?_); (focus (first | (simp; done) | (simp; omega) | omega))) | ((with_reducible refine bl_later ?_ ?_); (focus (first | (simp; done) | (simp; omega) | omega))) | with_reducible refine bl_drew ?_ | with_reducible refine bl_drewN ?_ | ((with_reducible refine bl_step (by assumption) ?_ ?_); (focus (first | (simp; done) | (simp; omega) | omega))))))) (by omega) (by omega)).mono ?_; rintro e w' ⟨rfl, rfl⟩)
    refine bodyPost_ret (v := .tuple #[.agg #[.int .i64 0, .int .i64 0, .int .i64 0, .int .i64 0, .int .i64 0, .int .i64 0, .int .i64 0], .bool false]) (by simp [results, Try.results72, go_sem, *]) rfl ⟨rfl, ?_⟩
    (repeat (first | with_reducible exact Below.refl _ _ | ((with_reducible refine bl_alloc ?_ ?_); (focus (first | (simp; done) | (simp; omega) | omega))) | ((with_reducible refine bl_set ?_ ?_); (focus (first | (simp; done) | (simp; omega) | omega))) | ((with_reducible refine bl_later ?_ ?_); (focus (first | (simp; done) | (simp; omega) | omega))) | with_reducible refine bl_drew ?_ | with_reducible refine bl_drewN ?_ | ((with_reducible refine bl_step (by assumption) ?_ ?_); (focus (first | (simp; done) | (simp; omega) | omega)))))
  · obtain ⟨x0, c, s, k, a, b, x, y, rfl⟩ : ∃ x0 c s k a b x y, l = [x0, c, s, k, a, b, x, y] := by
      have hl : l.length = 8 := by simp [isB] at hi1; exact hi1.1
      match l, hl with | [x0, c, s, k, a, b, x, y], _ => exact ⟨x0, c, s, k, a, b, x, y, rfl⟩
    obtain ⟨b0, off, rfl, hbl, hr0, hc⟩ := hh.at (k := 1) (by simp)
    have k1 := hc 1 (by simp)
    have k2 := hc 2 (by simp)
    have hh3 : IntsR w (some ⟨b0, off + 3, none⟩) [k, a, b, x, y] := hh.tail.tail.tail
    clear hc
    simp only [List.getElem_cons_succ, List.getElem_cons_zero, List.length_cons, List.length_nil, Nat.zero_add, Nat.reduceAdd] at k1 k2 hm hh h' hcap ⊢
    have hcap3 : (3 : Int) ≤ cap := by omega
    have Hh3 := Lib.hid hh3
    clear hh3
    cases hO : opOk k a b x y
    · have hE : askOk c s k a b x y = false := by simp [askOk, hO]
      have e1 : isAsk [x0, c, s, k, a, b, x, y] = false := by simp only [isAsk, hi1, Bool.true_and]; exact hE
      have e2 : partsAsk [x0, c, s, k, a, b, x, y] = [0, 0, 0, 0, 0, 0, 0] := by simp [partsAsk, e1]
      rw [e1, e2]
      simp only [List.map_cons, List.map_nil]
      go_enter Try.func72, Try.ntmps72
      go_wp2_with (first | (go_at_call 116; refine (c_spec_l11Is _ _ 8 _ [x0, c, s, k, a, b, x, y] _ (h' _ (by (repeat (first | with_reducible exact Below.refl _ _ | ((with_reducible refine bl_alloc ?_ ?_); (focus (first | (simp; done) | (simp; omega) | omega))) | ((with_reducible refine bl_set ?_ ?_); (focus (first | (simp; done) | (simp; omega) | omega))) | ((with_reducible refine bl_later ?_ ?_); (focus (first | (simp; done) | (simp; omega) | omega))) | with_reducible refine bl_drew ?_ | with_reducible refine bl_drewN ?_ | ((with_reducible refine bl_step (by assumption) ?_ ?_); (focus (first | (simp; done) | (simp; omega) | omega))))))) (by omega) (by omega)).mono ?_; rintro e w' ⟨rfl, rfl⟩) | (go_at_call 126; refine (c_spec_RowOp_f _ _ k a b x y _ (Hh3.out.below (by (repeat (first | with_reducible exact Below.refl _ _ | ((with_reducible refine bl_alloc ?_ ?_); (focus (first | (simp; done) | (simp; omega) | omega))) | ((with_reducible refine bl_set ?_ ?_); (focus (first | (simp; done) | (simp; omega) | omega))) | ((with_reducible refine bl_later ?_ ?_); (focus (first | (simp; done) | (simp; omega) | omega))) | with_reducible refine bl_drew ?_ | with_reducible refine bl_drewN ?_ | ((with_reducible refine bl_step (by assumption) ?_ ?_); (focus (first | (simp; done) | (simp; omega) | omega))))))) hO).mono ?_; rintro e w1 ⟨rfl, hb1⟩; have hz1 := hb1.size; (try simp only [World.size_alloc] at hz1); have Bz := (Bx.new w [.int .i64 0, .int .i64 0, .int .i64 0, .int .i64 0, .int .i64 0, .int .i64 0, .int .i64 0] 86).below hb1; have Fz := (Fx.new w [.int .i64 0, .int .i64 0, .int .i64 0, .int .i64 0, .int .i64 0, .int .i64 0, .int .i64 0] 86).below hb1; have hw1 := bl_step hb1 (by simp) ((Below.refl _ w).alloc (Nat.le_refl _) _); clear hb1))
      have j1 := (hw1.cell (p := ⟨b0, off + 1, none⟩) hbl).trans k1
      have j2 := (hw1.cell (p := ⟨b0, off + 2, none⟩) hbl).trans k2
      have hbl1 : b0 < w1.heap.size := by omega
      have hbl2 : b0 < w1.heap.size + 1 := by omega
      clear k1 k2
      refine restS_begin (fun W => Below (w1.alloc (.cells #[.int .i64 0, .int .i64 0, .int .i64 0, .int .i64 0, .int .i64 0] 68)).heap.size (w1.alloc (.cells #[.int .i64 0, .int .i64 0, .int .i64 0, .int .i64 0, .int .i64 0] 68)) W) (by kernel_rfl) (by (repeat (first | with_reducible exact Below.refl _ _ | ((with_reducible refine bl_alloc ?_ ?_); (focus (first | (simp; done) | (simp; omega) | omega))) | ((with_reducible refine bl_set ?_ ?_); (focus (first | (simp; done) | (simp; omega) | omega))) | ((with_reducible refine bl_later ?_ ?_); (focus (first | (simp; done) | (simp; omega) | omega))) | with_reducible refine bl_drew ?_ | with_reducible refine bl_drewN ?_ | ((with_reducible refine bl_step (by assumption) ?_ ?_); (focus (first | (simp; done) | (simp; omega) | omega)))))) ?_
      refine restS_take (v := ?_) 0 rfl (by kernel_rfl) (by kernel_rfl) (by kernel_rfl) (fun _ _ _ h => h) (by rfl) ?_ ?_
      rotate_left
      · intro w9 h9; try dsimp only at h9
        go_split_ands
        go_simp; try with_reducible rfl
      try simp only [Act.put, List.setIfInBounds_toArray, List.set_cons_zero, List.set_cons_succ]
      refine restS_take (v := ?_) 1 rfl (by kernel_rfl) (by kernel_rfl) (by kernel_rfl) (fun _ _ _ h => h) (by rfl) ?_ ?_
      rotate_left
      · intro w9 h9; try dsimp only at h9
        go_split_ands
        go_simp; try with_reducible rfl
      try simp only [Act.put, List.setIfInBounds_toArray, List.set_cons_zero, List.set_cons_succ]
      refine restS_take (v := ?_) 2 rfl (by kernel_rfl) (by kernel_rfl) (by kernel_rfl) (fun _ _ _ h => h) (by rfl) ?_ ?_
      rotate_left
      · intro w9 h9; try dsimp only at h9
        obtain ⟨x9, rfl⟩ := later_of h9
        go_simp; try with_reducible rfl
      try simp only [Act.put, List.setIfInBounds_toArray, List.set_cons_zero, List.set_cons_succ]
      refine restS_take (v := ?_) 3 rfl (by kernel_rfl) (by kernel_rfl) (by kernel_rfl) (fun _ _ _ h => h) (by rfl) ?_ ?_
      rotate_left
      · intro w9 h9; try dsimp only at h9
        go_split_ands
        go_simp; try with_reducible rfl
      try simp only [Act.put, List.setIfInBounds_toArray, List.set_cons_zero, List.set_cons_succ]
      refine restS_take (v := ?_) 4 rfl (by kernel_rfl) (by kernel_rfl) (by kernel_rfl) (fun _ _ _ h => h) (by rfl) ?_ ?_
      rotate_left
      · intro w9 h9; try dsimp only at h9
        go_split_ands
        go_simp; try with_reducible rfl
      try simp only [Act.put, List.setIfInBounds_toArray, List.set_cons_zero, List.set_cons_succ]
      refine restS_take (v := ?_) 5 rfl (by kernel_rfl) (by kernel_rfl) (by kernel_rfl) (fun _ _ _ h => h) (by rfl) ?_ ?_
      rotate_left
      · intro w9 h9; try dsimp only at h9
        obtain ⟨x9, rfl⟩ := later_of h9
        go_simp; try with_reducible rfl
      try simp only [Act.put, List.setIfInBounds_toArray, List.set_cons_zero, List.set_cons_succ]
      refine restS_take (v := ?_) 6 rfl (by kernel_rfl) (by kernel_rfl) (by kernel_rfl) (fun _ _ _ h => h) (by rfl) ?_ ?_
      rotate_left
      · intro w9 h9; try dsimp only at h9
        obtain ⟨x9, rfl⟩ := later_of h9
        go_simp; try with_reducible rfl
      try simp only [Act.put, List.setIfInBounds_toArray, List.set_cons_zero, List.set_cons_succ]
      refine restS_take (v := ?_) 7 rfl (by kernel_rfl) (by kernel_rfl) (by kernel_rfl) (fun _ _ _ h => h) (by rfl) ?_ ?_
      rotate_left
      · intro w9 h9; try dsimp only at h9
        go_split_ands
        go_simp; try with_reducible rfl
      try simp only [Act.put, List.setIfInBounds_toArray, List.set_cons_zero, List.set_cons_succ]
      refine restS_alone 8 rfl (by kernel_rfl) (by rfl) (fun hS K hK => ?_)
      go_wp2_with fail
      refine hK.out _ _ (by (repeat (first | with_reducible exact Below.refl _ _ | ((with_reducible refine bl_alloc ?_ ?_); (focus (first | (simp; done) | (simp; omega) | omega))) | ((with_reducible refine bl_set ?_ ?_); (focus (first | (simp; done) | (simp; omega) | omega))) | ((with_reducible refine bl_later ?_ ?_); (focus (first | (simp; done) | (simp; omega) | omega))) | with_reducible refine bl_drew ?_ | with_reducible refine bl_drewN ?_ | ((with_reducible refine bl_step (by assumption) ?_ ?_); (focus (first | (simp; done) | (simp; omega) | omega)))))) ?_
      try simp only [Act.put, List.setIfInBounds_toArray, List.set_cons_zero, List.set_cons_succ]
      clear hK K hS
      refine restS_alone 9 rfl (by kernel_rfl) (by rfl) (fun hS K hK => ?_)
      go_wp2_with fail
      refine hK.out _ _ (by (repeat (first | with_reducible exact Below.refl _ _ | ((with_reducible refine bl_alloc ?_ ?_); (focus (first | (simp; done) | (simp; omega) | omega))) | ((with_reducible refine bl_set ?_ ?_); (focus (first | (simp; done) | (simp; omega) | omega))) | ((with_reducible refine bl_later ?_ ?_); (focus (first | (simp; done) | (simp; omega) | omega))) | with_reducible refine bl_drew ?_ | with_reducible refine bl_drewN ?_ | ((with_reducible refine bl_step (by assumption) ?_ ?_); (focus (first | (simp; done) | (simp; omega) | omega)))))) ?_
      try simp only [Act.put, List.setIfInBounds_toArray, List.set_cons_zero, List.set_cons_succ]
      clear hK K hS
      refine restS_done (by kernel_rfl) (fun hS => ?_)
      clear hS
      have Bz2 := ((Bz.alloc (.cells #[.int .i64 0, .int .i64 0, .int .i64 0, .int .i64 0, .int .i64 0] 68)).alloc (.cells #[.int .i64 c, .int .i64 s, .int .i64 0, .int .i64 0, .int .i64 0, .int .i64 0, .int .i64 0] 86)).drew
      have Fz2 := ((Fz.alloc (.cells #[.int .i64 0, .int .i64 0, .int .i64 0, .int .i64 0, .int .i64 0] 68)).alloc (.cells #[.int .i64 c, .int .i64 s, .int .i64 0, .int .i64 0, .int .i64 0, .int .i64 0, .int .i64 0] 86)).drew
      have By2 := (Bx.new (w1.alloc (.cells #[.int .i64 0, .int .i64 0, .int .i64 0, .int .i64 0, .int .i64 0] 68)) [.int .i64 c, .int .i64 s, .int .i64 0, .int .i64 0, .int .i64 0, .int .i64 0, .int .i64 0] 86).drew
      rw [World.size_alloc] at By2
      have q0 := Bz2.2
      have q1 := Fz2.2
      have q2 := By2.2
      have hw2 : Below w.heap.size w ((w1.alloc (.cells #[.int .i64 0, .int .i64 0, .int .i64 0, .int .i64 0, .int .i64 0] 68)).alloc (.cells #[.int .i64 c, .int .i64 s, .int .i64 0, .int .i64 0, .int .i64 0, .int .i64 0, .int .i64 0] 86)).drew := ((hw1.alloc hw1.size _).alloc (by have := hw1.size; simp; omega) _).drew
      clear q0 q1 q2 Bz2 Fz2 By2 hw2
      have q0 := Bz.2
      have q1 := Fz.2
      have hs1 : w.heap.size < w1.heap.size := by omega
      have hs2 : w.heap.size < w1.heap.size + 1 := by omega
      go_wp2_with fail
      refine bodyPost_ret (v := .tuple #[.agg #[.int .i64 0, .int .i64 0, .int .i64 0, .int .i64 0, .int .i64 0, .int .i64 0, .int .i64 0], .bool false]) (by simp [results, Try.results72, go_sem, *]) rfl ⟨rfl, ?_⟩
      (repeat (first | with_reducible exact Below.refl _ _ | ((with_reducible refine bl_alloc ?_ ?_); (focus (first | (simp; done) | (simp; omega) | omega))) | ((with_reducible refine bl_set ?_ ?_); (focus (first | (simp; done) | (simp; omega) | omega))) | ((with_reducible refine bl_later ?_ ?_); (focus (first | (simp; done) | (simp; omega) | omega))) | with_reducible refine bl_drew ?_ | with_reducible refine bl_drewN ?_ | ((with_reducible refine bl_step (by assumption) ?_ ?_); (focus (first | (simp; done) | (simp; omega) | omega)))))
    · cases hE : askOk c s k a b x y
      · skip
        have e1 : isAsk [x0, c, s, k, a, b, x, y] = false := by simp only [isAsk, hi1, Bool.true_and]; exact hE
        have e2 : partsAsk [x0, c, s, k, a, b, x, y] = [0, 0, 0, 0, 0, 0, 0] := by simp [partsAsk, e1]
        rw [e1, e2]
        simp only [List.map_cons, List.map_nil]
        go_enter Try.func72, Try.ntmps72
        go_wp2_with (first | (go_at_call 116; refine (c_spec_l11Is _ _ 8 _ [x0, c, s, k, a, b, x, y] _ (h' _ (by (repeat (first | with_reducible exact Below.refl _ _ | ((with_reducible refine bl_alloc ?_ ?_); (focus (first | (simp; done) | (simp; omega) | omega))) | ((with_reducible refine bl_set ?_ ?_); (focus (first | (simp; done) | (simp; omega) | omega))) | ((with_reducible refine bl_later ?_ ?_); (focus (first | (simp; done) | (simp; omega) | omega))) | with_reducible refine bl_drew ?_ | with_reducible refine bl_drewN ?_ | ((with_reducible refine bl_step (by assumption) ?_ ?_); (focus (first | (simp; done) | (simp; omega) | omega))))))) (by omega) (by omega)).mono ?_; rintro e w' ⟨rfl, rfl⟩) | (go_at_call 126; refine (c_spec_RowOp_t _ _ k a b x y _ (Hh3.out.below (by (repeat (first | with_reducible exact Below.refl _ _ | ((with_reducible refine bl_alloc ?_ ?_); (focus (first | (simp; done) | (simp; omega) | omega))) | ((with_reducible refine bl_set ?_ ?_); (focus (first | (simp; done) | (simp; omega) | omega))) | ((with_reducible refine bl_later ?_ ?_); (focus (first | (simp; done) | (simp; omega) | omega))) | with_reducible refine bl_drew ?_ | with_reducible refine bl_drewN ?_ | ((with_reducible refine bl_step (by assumption) ?_ ?_); (focus (first | (simp; done) | (simp; omega) | omega))))))) hO).mono ?_; rintro e w1 ⟨rfl, hb1⟩; have hz1 := hb1.size; (try simp only [World.size_alloc] at hz1); have Bz := (Bx.new w [.int .i64 0, .int .i64 0, .int .i64 0, .int .i64 0, .int .i64 0, .int .i64 0, .int .i64 0] 86).below hb1; have Fz := (Fx.new w [.int .i64 0, .int .i64 0, .int .i64 0, .int .i64 0, .int .i64 0, .int .i64 0, .int .i64 0] 86).below hb1; have hw1 := bl_step hb1 (by simp) ((Below.refl _ w).alloc (Nat.le_refl _) _); clear hb1))
        have j1 := (hw1.cell (p := ⟨b0, off + 1, none⟩) hbl).trans k1
        have j2 := (hw1.cell (p := ⟨b0, off + 2, none⟩) hbl).trans k2
        have hbl1 : b0 < w1.heap.size := by omega
        have hbl2 : b0 < w1.heap.size + 1 := by omega
        clear k1 k2
        refine restS_begin (fun W => Below (w1.alloc (.cells #[.int .i64 k, .int .i64 a, .int .i64 b, .int .i64 x, .int .i64 y] 68)).heap.size (w1.alloc (.cells #[.int .i64 k, .int .i64 a, .int .i64 b, .int .i64 x, .int .i64 y] 68)) W) (by kernel_rfl) (by (repeat (first | with_reducible exact Below.refl _ _ | ((with_reducible refine bl_alloc ?_ ?_); (focus (first | (simp; done) | (simp; omega) | omega))) | ((with_reducible refine bl_set ?_ ?_); (focus (first | (simp; done) | (simp; omega) | omega))) | ((with_reducible refine bl_later ?_ ?_); (focus (first | (simp; done) | (simp; omega) | omega))) | with_reducible refine bl_drew ?_ | with_reducible refine bl_drewN ?_ | ((with_reducible refine bl_step (by assumption) ?_ ?_); (focus (first | (simp; done) | (simp; omega) | omega)))))) ?_
        refine restS_take (v := ?_) 0 rfl (by kernel_rfl) (by kernel_rfl) (by kernel_rfl) (fun _ _ _ h => h) (by rfl) ?_ ?_
        rotate_left
        · intro w9 h9; try dsimp only at h9
          go_split_ands
          go_simp; try with_reducible rfl
        try simp only [Act.put, List.setIfInBounds_toArray, List.set_cons_zero, List.set_cons_succ]
        refine restS_take (v := ?_) 1 rfl (by kernel_rfl) (by kernel_rfl) (by kernel_rfl) (fun _ _ _ h => h) (by rfl) ?_ ?_
        rotate_left
        · intro w9 h9; try dsimp only at h9
          go_split_ands
          go_simp; try with_reducible rfl
        try simp only [Act.put, List.setIfInBounds_toArray, List.set_cons_zero, List.set_cons_succ]
        refine restS_take (v := ?_) 2 rfl (by kernel_rfl) (by kernel_rfl) (by kernel_rfl) (fun _ _ _ h => h) (by rfl) ?_ ?_
        rotate_left
        · intro w9 h9; try dsimp only at h9
          obtain ⟨x9, rfl⟩ := later_of h9
          go_simp; try with_reducible rfl
        try simp only [Act.put, List.setIfInBounds_toArray, List.set_cons_zero, List.set_cons_succ]
        refine restS_take (v := ?_) 3 rfl (by kernel_rfl) (by kernel_rfl) (by kernel_rfl) (fun _ _ _ h => h) (by rfl) ?_ ?_
        rotate_left
        · intro w9 h9; try dsimp only at h9
          go_split_ands
          go_simp; try with_reducible rfl
        try simp only [Act.put, List.setIfInBounds_toArray, List.set_cons_zero, List.set_cons_succ]
        refine restS_take (v := ?_) 4 rfl (by kernel_rfl) (by kernel_rfl) (by kernel_rfl) (fun _ _ _ h => h) (by rfl) ?_ ?_
        rotate_left
        · intro w9 h9; try dsimp only at h9
          go_split_ands
          go_simp; try with_reducible rfl
        try simp only [Act.put, List.setIfInBounds_toArray, List.set_cons_zero, List.set_cons_succ]
        refine restS_take (v := ?_) 5 rfl (by kernel_rfl) (by kernel_rfl) (by kernel_rfl) (fun _ _ _ h => h) (by rfl) ?_ ?_
        rotate_left
        · intro w9 h9; try dsimp only at h9
          obtain ⟨x9, rfl⟩ := later_of h9
          go_simp; try with_reducible rfl
        try simp only [Act.put, List.setIfInBounds_toArray, List.set_cons_zero, List.set_cons_succ]
        refine restS_take (v := ?_) 6 rfl (by kernel_rfl) (by kernel_rfl) (by kernel_rfl) (fun _ _ _ h => h) (by rfl) ?_ ?_
        rotate_left
        · intro w9 h9; try dsimp only at h9
          obtain ⟨x9, rfl⟩ := later_of h9
          go_simp; try with_reducible rfl
        try simp only [Act.put, List.setIfInBounds_toArray, List.set_cons_zero, List.set_cons_succ]
        refine restS_take (v := ?_) 7 rfl (by kernel_rfl) (by kernel_rfl) (by kernel_rfl) (fun _ _ _ h => h) (by rfl) ?_ ?_
        rotate_left
        · intro w9 h9; try dsimp only at h9
          go_split_ands
          go_simp; try with_reducible rfl
        try simp only [Act.put, List.setIfInBounds_toArray, List.set_cons_zero, List.set_cons_succ]
        refine restS_alone 8 rfl (by kernel_rfl) (by rfl) (fun hS K hK => ?_)
        go_wp2_with fail
        refine hK.out _ _ (by (repeat (first | with_reducible exact Below.refl _ _ | ((with_reducible refine bl_alloc ?_ ?_); (focus (first | (simp; done) | (simp; omega) | omega))) | ((with_reducible refine bl_set ?_ ?_); (focus (first | (simp; done) | (simp; omega) | omega))) | ((with_reducible refine bl_later ?_ ?_); (focus (first | (simp; done) | (simp; omega) | omega))) | with_reducible refine bl_drew ?_ | with_reducible refine bl_drewN ?_ | ((with_reducible refine bl_step (by assumption) ?_ ?_); (focus (first | (simp; done) | (simp; omega) | omega)))))) ?_
        try simp only [Act.put, List.setIfInBounds_toArray, List.set_cons_zero, List.set_cons_succ]
        clear hK K hS
        refine restS_alone 9 rfl (by kernel_rfl) (by rfl) (fun hS K hK => ?_)
        go_wp2_with fail
        refine hK.out _ _ (by (repeat (first | with_reducible exact Below.refl _ _ | ((with_reducible refine bl_alloc ?_ ?_); (focus (first | (simp; done) | (simp; omega) | omega))) | ((with_reducible refine bl_set ?_ ?_); (focus (first | (simp; done) | (simp; omega) | omega))) | ((with_reducible refine bl_later ?_ ?_); (focus (first | (simp; done) | (simp; omega) | omega))) | with_reducible refine bl_drew ?_ | with_reducible refine bl_drewN ?_ | ((with_reducible refine bl_step (by assumption) ?_ ?_); (focus (first | (simp; done) | (simp; omega) | omega)))))) ?_
        try simp only [Act.put, List.setIfInBounds_toArray, List.set_cons_zero, List.set_cons_succ]
        clear hK K hS
        refine restS_done (by kernel_rfl) (fun hS => ?_)
        clear hS
        have Bz2 := ((Bz.alloc (.cells #[.int .i64 k, .int .i64 a, .int .i64 b, .int .i64 x, .int .i64 y] 68)).alloc (.cells #[.int .i64 c, .int .i64 s, .int .i64 k, .int .i64 a, .int .i64 b, .int .i64 x, .int .i64 y] 86)).drew
        have Fz2 := ((Fz.alloc (.cells #[.int .i64 k, .int .i64 a, .int .i64 b, .int .i64 x, .int .i64 y] 68)).alloc (.cells #[.int .i64 c, .int .i64 s, .int .i64 k, .int .i64 a, .int .i64 b, .int .i64 x, .int .i64 y] 86)).drew
        have By2 := (Bx.new (w1.alloc (.cells #[.int .i64 k, .int .i64 a, .int .i64 b, .int .i64 x, .int .i64 y] 68)) [.int .i64 c, .int .i64 s, .int .i64 k, .int .i64 a, .int .i64 b, .int .i64 x, .int .i64 y] 86).drew
        rw [World.size_alloc] at By2
        have q0 := Bz2.2
        have q1 := Fz2.2
        have q2 := By2.2
        have hw2 : Below w.heap.size w ((w1.alloc (.cells #[.int .i64 k, .int .i64 a, .int .i64 b, .int .i64 x, .int .i64 y] 68)).alloc (.cells #[.int .i64 c, .int .i64 s, .int .i64 k, .int .i64 a, .int .i64 b, .int .i64 x, .int .i64 y] 86)).drew := ((hw1.alloc hw1.size _).alloc (by have := hw1.size; simp; omega) _).drew
        go_wp2_with (go_at_call 123; refine (c_spec_AskOk _ _ _ _ _ _ _ _).mono ?_; rintro e w2 ⟨rfl, hb2⟩; clear q0 q1 q2; have q0 := (Bz2.below hb2).2; have q1 := (Fz2.below hb2).2; have q2 := (By2.below hb2).2; have hw3 := bl_step hb2 hw2.size hw2; have hz2 := hb2.size; simp only [World.size_drew, World.size_alloc] at hz2)
        refine bodyPost_ret (v := .tuple #[.agg #[.int .i64 0, .int .i64 0, .int .i64 0, .int .i64 0, .int .i64 0, .int .i64 0, .int .i64 0], .bool false]) (by simp [results, Try.results72, go_sem, *]) rfl ⟨rfl, ?_⟩
        (repeat (first | with_reducible exact Below.refl _ _ | ((with_reducible refine bl_alloc ?_ ?_); (focus (first | (simp; done) | (simp; omega) | omega))) | ((with_reducible refine bl_set ?_ ?_); (focus (first | (simp; done) | (simp; omega) | omega))) | ((with_reducible refine bl_later ?_ ?_); (focus (first | (simp; done) | (simp; omega) | omega))) | with_reducible refine bl_drew ?_ | with_reducible refine bl_drewN ?_ | ((with_reducible refine bl_step (by assumption) ?_ ?_); (focus (first | (simp; done) | (simp; omega) | omega)))))
      · skip
        have e1 : isAsk [x0, c, s, k, a, b, x, y] = true := by simp only [isAsk, hi1, Bool.true_and]; exact hE
        have e2 : partsAsk [x0, c, s, k, a, b, x, y] = [c, s, k, a, b, x, y] := by simp [partsAsk, e1]
        rw [e1, e2]
        simp only [List.map_cons, List.map_nil]
        go_enter Try.func72, Try.ntmps72
        go_wp2_with (first | (go_at_call 116; refine (c_spec_l11Is _ _ 8 _ [x0, c, s, k, a, b, x, y] _ (h' _ (by (repeat (first | with_reducible exact Below.refl _ _ | ((with_reducible refine bl_alloc ?_ ?_); (focus (first | (simp; done) | (simp; omega) | omega))) | ((with_reducible refine bl_set ?_ ?_); (focus (first | (simp; done) | (simp; omega) | omega))) | ((with_reducible refine bl_later ?_ ?_); (focus (first | (simp; done) | (simp; omega) | omega))) | with_reducible refine bl_drew ?_ | with_reducible refine bl_drewN ?_ | ((with_reducible refine bl_step (by assumption) ?_ ?_); (focus (first | (simp; done) | (simp; omega) | omega))))))) (by omega) (by omega)).mono ?_; rintro e w' ⟨rfl, rfl⟩) | (go_at_call 126; refine (c_spec_RowOp_t _ _ k a b x y _ (Hh3.out.below (by (repeat (first | with_reducible exact Below.refl _ _ | ((with_reducible refine bl_alloc ?_ ?_); (focus (first | (simp; done) | (simp; omega) | omega))) | ((with_reducible refine bl_set ?_ ?_); (focus (first | (simp; done) | (simp; omega) | omega))) | ((with_reducible refine bl_later ?_ ?_); (focus (first | (simp; done) | (simp; omega) | omega))) | with_reducible refine bl_drew ?_ | with_reducible refine bl_drewN ?_ | ((with_reducible refine bl_step (by assumption) ?_ ?_); (focus (first | (simp; done) | (simp; omega) | omega))))))) hO).mono ?_; rintro e w1 ⟨rfl, hb1⟩; have hz1 := hb1.size; (try simp only [World.size_alloc] at hz1); have Bz := (Bx.new w [.int .i64 0, .int .i64 0, .int .i64 0, .int .i64 0, .int .i64 0, .int .i64 0, .int .i64 0] 86).below hb1; have Fz := (Fx.new w [.int .i64 0, .int .i64 0, .int .i64 0, .int .i64 0, .int .i64 0, .int .i64 0, .int .i64 0] 86).below hb1; have hw1 := bl_step hb1 (by simp) ((Below.refl _ w).alloc (Nat.le_refl _) _); clear hb1))
        have j1 := (hw1.cell (p := ⟨b0, off + 1, none⟩) hbl).trans k1
        have j2 := (hw1.cell (p := ⟨b0, off + 2, none⟩) hbl).trans k2
        have hbl1 : b0 < w1.heap.size := by omega
        have hbl2 : b0 < w1.heap.size + 1 := by omega
        clear k1 k2
        refine restS_begin (fun W => Below (w1.alloc (.cells #[.int .i64 k, .int .i64 a, .int .i64 b, .int .i64 x, .int .i64 y] 68)).heap.size (w1.alloc (.cells #[.int .i64 k, .int .i64 a, .int .i64 b, .int .i64 x, .int .i64 y] 68)) W) (by kernel_rfl) (by (repeat (first | with_reducible exact Below.refl _ _ | ((with_reducible refine bl_alloc ?_ ?_); (focus (first | (simp; done) | (simp; omega) | omega))) | ((with_reducible refine bl_set ?_ ?_); (focus (first | (simp; done) | (simp; omega) | omega))) | ((with_reducible refine bl_later ?_ ?_); (focus (first | (simp; done) | (simp; omega) | omega))) | with_reducible refine bl_drew ?_ | with_reducible refine bl_drewN ?_ | ((with_reducible refine bl_step (by assumption) ?_ ?_); (focus (first | (simp; done) | (simp; omega) | omega)))))) ?_
        refine restS_take (v := ?_) 0 rfl (by kernel_rfl) (by kernel_rfl) (by kernel_rfl) (fun _ _ _ h => h) (by rfl) ?_ ?_
        rotate_left
        · intro w9 h9; try dsimp only at h9
          go_split_ands
          go_simp; try with_reducible rfl
        try simp only [Act.put, List.setIfInBounds_toArray, List.set_cons_zero, List.set_cons_succ]
        refine restS_take (v := ?_) 1 rfl (by kernel_rfl) (by kernel_rfl) (by kernel_rfl) (fun _ _ _ h => h) (by rfl) ?_ ?_
        rotate_left
        · intro w9 h9; try dsimp only at h9
          go_split_ands
          go_simp; try with_reducible rfl
        try simp only [Act.put, List.setIfInBounds_toArray, List.set_cons_zero, List.set_cons_succ]
        refine restS_take (v := ?_) 2 rfl (by kernel_rfl) (by kernel_rfl) (by kernel_rfl) (fun _ _ _ h => h) (by rfl) ?_ ?_
        rotate_left
        · intro w9 h9; try dsimp only at h9
          obtain ⟨x9, rfl⟩ := later_of h9
          go_simp; try with_reducible rfl
        try simp only [Act.put, List.setIfInBounds_toArray, List.set_cons_zero, List.set_cons_succ]
        refine restS_take (v := ?_) 3 rfl (by kernel_rfl) (by kernel_rfl) (by kernel_rfl) (fun _ _ _ h => h) (by rfl) ?_ ?_
        rotate_left
        · intro w9 h9; try dsimp only at h9
          go_split_ands
          go_simp; try with_reducible rfl
        try simp only [Act.put, List.setIfInBounds_toArray, List.set_cons_zero, List.set_cons_succ]
        refine restS_take (v := ?_) 4 rfl (by kernel_rfl) (by kernel_rfl) (by kernel_rfl) (fun _ _ _ h => h) (by rfl) ?_ ?_
        rotate_left
        · intro w9 h9; try dsimp only at h9
          go_split_ands
          go_simp; try with_reducible rfl
        try simp only [Act.put, List.setIfInBounds_toArray, List.set_cons_zero, List.set_cons_succ]
        refine restS_take (v := ?_) 5 rfl (by kernel_rfl) (by kernel_rfl) (by kernel_rfl) (fun _ _ _ h => h) (by rfl) ?_ ?_
        rotate_left
        · intro w9 h9; try dsimp only at h9
          obtain ⟨x9, rfl⟩ := later_of h9
          go_simp; try with_reducible rfl
        try simp only [Act.put, List.setIfInBounds_toArray, List.set_cons_zero, List.set_cons_succ]
        refine restS_take (v := ?_) 6 rfl (by kernel_rfl) (by kernel_rfl) (by kernel_rfl) (fun _ _ _ h => h) (by rfl) ?_ ?_
        rotate_left
        · intro w9 h9; try dsimp only at h9
          obtain ⟨x9, rfl⟩ := later_of h9
          go_simp; try with_reducible rfl
        try simp only [Act.put, List.setIfInBounds_toArray, List.set_cons_zero, List.set_cons_succ]
        refine restS_take (v := ?_) 7 rfl (by kernel_rfl) (by kernel_rfl) (by kernel_rfl) (fun _ _ _ h => h) (by rfl) ?_ ?_
        rotate_left
        · intro w9 h9; try dsimp only at h9
          go_split_ands
          go_simp; try with_reducible rfl
        try simp only [Act.put, List.setIfInBounds_toArray, List.set_cons_zero, List.set_cons_succ]
        refine restS_alone 8 rfl (by kernel_rfl) (by rfl) (fun hS K hK => ?_)
        go_wp2_with fail
        refine hK.out _ _ (by (repeat (first | with_reducible exact Below.refl _ _ | ((with_reducible refine bl_alloc ?_ ?_); (focus (first | (simp; done) | (simp; omega) | omega))) | ((with_reducible refine bl_set ?_ ?_); (focus (first | (simp; done) | (simp; omega) | omega))) | ((with_reducible refine bl_later ?_ ?_); (focus (first | (simp; done) | (simp; omega) | omega))) | with_reducible refine bl_drew ?_ | with_reducible refine bl_drewN ?_ | ((with_reducible refine bl_step (by assumption) ?_ ?_); (focus (first | (simp; done) | (simp; omega) | omega)))))) ?_
        try simp only [Act.put, List.setIfInBounds_toArray, List.set_cons_zero, List.set_cons_succ]
        clear hK K hS
        refine restS_alone 9 rfl (by kernel_rfl) (by rfl) (fun hS K hK => ?_)
        go_wp2_with fail
        refine hK.out _ _ (by (repeat (first | with_reducible exact Below.refl _ _ | ((with_reducible refine bl_alloc ?_ ?_); (focus (first | (simp; done) | (simp; omega) | omega))) | ((with_reducible refine bl_set ?_ ?_); (focus (first | (simp; done) | (simp; omega) | omega))) | ((with_reducible refine bl_later ?_ ?_); (focus (first | (simp; done) | (simp; omega) | omega))) | with_reducible refine bl_drew ?_ | with_reducible refine bl_drewN ?_ | ((with_reducible refine bl_step (by assumption) ?_ ?_); (focus (first | (simp; done) | (simp; omega) | omega)))))) ?_
        try simp only [Act.put, List.setIfInBounds_toArray, List.set_cons_zero, List.set_cons_succ]
        clear hK K hS
        refine restS_done (by kernel_rfl) (fun hS => ?_)
        clear hS
        have Bz2 := ((Bz.alloc (.cells #[.int .i64 k, .int .i64 a, .int .i64 b, .int .i64 x, .int .i64 y] 68)).alloc (.cells #[.int .i64 c, .int .i64 s, .int .i64 k, .int .i64 a, .int .i64 b, .int .i64 x, .int .i64 y] 86)).drew
        have Fz2 := ((Fz.alloc (.cells #[.int .i64 k, .int .i64 a, .int .i64 b, .int .i64 x, .int .i64 y] 68)).alloc (.cells #[.int .i64 c, .int .i64 s, .int .i64 k, .int .i64 a, .int .i64 b, .int .i64 x, .int .i64 y] 86)).drew
        have By2 := (Bx.new (w1.alloc (.cells #[.int .i64 k, .int .i64 a, .int .i64 b, .int .i64 x, .int .i64 y] 68)) [.int .i64 c, .int .i64 s, .int .i64 k, .int .i64 a, .int .i64 b, .int .i64 x, .int .i64 y] 86).drew
        rw [World.size_alloc] at By2
        have q0 := Bz2.2
        have q1 := Fz2.2
        have q2 := By2.2
        have hw2 : Below w.heap.size w ((w1.alloc (.cells #[.int .i64 k, .int .i64 a, .int .i64 b, .int .i64 x, .int .i64 y] 68)).alloc (.cells #[.int .i64 c, .int .i64 s, .int .i64 k, .int .i64 a, .int .i64 b, .int .i64 x, .int .i64 y] 86)).drew := ((hw1.alloc hw1.size _).alloc (by have := hw1.size; simp; omega) _).drew
        go_wp2_with (go_at_call 123; refine (c_spec_AskOk _ _ _ _ _ _ _ _).mono ?_; rintro e w2 ⟨rfl, hb2⟩; clear q0 q1 q2; have q0 := (Bz2.below hb2).2; have q1 := (Fz2.below hb2).2; have q2 := (By2.below hb2).2; have hw3 := bl_step hb2 hw2.size hw2; have hz2 := hb2.size; simp only [World.size_drew, World.size_alloc] at hz2)
        refine bodyPost_ret (v := .tuple #[.agg #[.int .i64 c, .int .i64 s, .int .i64 k, .int .i64 a, .int .i64 b, .int .i64 x, .int .i64 y], .bool true]) (by simp [results, Try.results72, go_sem, *]) rfl ⟨rfl, ?_⟩
        (repeat (first | with_reducible exact Below.refl _ _ | ((with_reducible refine bl_alloc ?_ ?_); (focus (first | (simp; done) | (simp; omega) | omega))) | ((with_reducible refine bl_set ?_ ?_); (focus (first | (simp; done) | (simp; omega) | omega))) | ((with_reducible refine bl_later ?_ ?_); (focus (first | (simp; done) | (simp; omega) | omega))) | with_reducible refine bl_drew ?_ | with_reducible refine bl_drewN ?_ | ((with_reducible refine bl_step (by assumption) ?_ ?_); (focus (first | (simp; done) | (simp; omega) | omega)))))

end Go.Proofs.Ytpfkfppooeikeaa
