/- Walks of functions of the program, printed by a program of the prover. -/
import Derived.Test.YtmjafclpeknpcaaNTo
import Derived.Test.YtmjafclpeknpcaaLeaf
import Derived.WalkKit
import Derived.WalkSpells
import Derived.Deep.QuietTactic
import Derived.BigQuiet
import Derived.Deep.Light
import Derived.Lib.Hide
import Derived.IntWalk
namespace Go.Proofs.Ytmjafclpeknpcaa
open Go.ChangeShapes Go.WideShapes Go.ChangeAt Go.RowKit Go.Deep
set_option maxHeartbeats 1600000
set_option maxRecDepth 100000

def wrOk (n : Nat) (x : Int × List Int) : Bool := inB x.1 0 ((n : Int) - 1) && rowOk x.2
def diskOk (d : List (List Int) × List (Int × List Int)) : Bool := decide (1 ≤ d.1.length) && (decide (d.1.length ≤ 40) && (decide (d.2.length ≤ 60) && (d.1.all rowOk && d.2.all (wrOk d.1.length))))
theorem diskOk_n1 {d : List (List Int) × List (Int × List Int)} (h : d.1.length < 1) : diskOk d = false := by
  have h2 : decide (1 ≤ d.1.length) = false := decide_eq_false (by omega)
  simp only [diskOk, h2, Bool.false_and]
theorem diskOk_n2 {d : List (List Int) × List (Int × List Int)} (h : 40 < d.1.length) : diskOk d = false := by
  have h2 : decide (d.1.length ≤ 40) = false := decide_eq_false (by omega)
  simp only [diskOk, h2, Bool.false_and, Bool.and_false]
theorem diskOk_n3 {d : List (List Int) × List (Int × List Int)} (h : 60 < d.2.length) : diskOk d = false := by
  have h2 : decide (d.2.length ≤ 60) = false := decide_eq_false (by omega)
  simp only [diskOk, h2, Bool.false_and, Bool.and_false]
theorem diskOk_n4 {d : List (List Int) × List (Int × List Int)} {k : Nat} (hk : k < d.1.length) (h : rowOk d.1[k] = false) : diskOk d = false := by
  have h2 : d.1.all rowOk = false := List.all_eq_false.2 ⟨_, List.getElem_mem hk, by simp [h]⟩
  simp only [diskOk, h2, Bool.false_and, Bool.and_false]
theorem diskOk_n5 {d : List (List Int) × List (Int × List Int)} {k : Nat} (hk : k < d.2.length) (h : wrOk d.1.length d.2[k] = false) : diskOk d = false := by
  have h2 : d.2.all (wrOk d.1.length) = false := List.all_eq_false.2 ⟨_, List.getElem_mem hk, by simp [h]⟩
  simp only [diskOk, h2, Bool.and_false]
theorem diskOk_y {d : List (List Int) × List (Int × List Int)} (h1 : 1 ≤ d.1.length) (h2 : d.1.length ≤ 40) (h3 : d.2.length ≤ 60) (h4 : ∀ k (h : k < d.1.length), rowOk d.1[k] = true) (h5 : ∀ k (h : k < d.2.length), wrOk d.1.length d.2[k] = true) : diskOk d = true := by
  have e1 : d.1.all rowOk = true := List.all_eq_true.2 fun x hx => by
    obtain ⟨i, hi, rfl⟩ := List.getElem_of_mem hx
    exact h4 i hi
  have e2 : d.2.all (wrOk d.1.length) = true := List.all_eq_true.2 fun x hx => by
    obtain ⟨i, hi, rfl⟩ := List.getElem_of_mem hx
    exact h5 i hi
  simp [diskOk, h1, h2, h3, e1, e2]
theorem c_spec_hasAt (ak aw : Option Addr) (ck cw n m : Nat) (x : Int) (w : World) (hn : n ≤ 9223372036854775807) :
    Calls Try.prog 113 #[.agg #[.slice ak n ck, .slice aw m cw], .int .i64 x] w fun e w' => e = .returned (.bool (inB x 0 ((n : Int) - 1))) ∧ Below w.heap.size w w' := by
  go_enter Try.func113, Try.ntmps113
  go_wp2_with fail
  refine (c_spec_l1In _ _ _ _).mono ?_
  rintro e w' ⟨rfl, rfl⟩
  go_wp2_with fail
  go_ret
  exact ⟨rfl, (Below.refl _ _).alloc (Nat.le_refl _) _⟩
theorem c_impl_hasAt (ak aw : Option Addr) (ck cw n m : Nat) (x : Int) (w : World) (hn : n ≤ 9223372036854775807) :
    Calls Try.prog 117 #[.agg #[.slice ak n ck, .slice aw m cw], .int .i64 x] w fun e w' => e = .returned (.bool (inB x 0 ((n : Int) - 1))) ∧ Below w.heap.size w w' := by
  go_enter Try.func117, Try.ntmps117
  go_wp2_with fail
  refine (c_impl_between _ _ _ _).mono ?_
  rintro e w' ⟨rfl, rfl⟩
  go_wp2_with fail
  go_ret
  exact ⟨rfl, (Below.refl _ _).alloc (Nat.le_refl _) _⟩
theorem c_spec_DiskOk (ak aw : Option Addr) (ck cw : Nat) (K : List (List Int)) (W : List (Int × List Int)) (w : World) (h : DiskR w ak aw (K, W)) :
    Calls Try.prog 129 #[.agg #[.slice ak K.length ck, .slice aw W.length cw]] w fun e w' => e = .returned (.bool (diskOk (K, W))) ∧ Below w.heap.size w w' := by
  have hkm : K.length ≤ 9223372036854775807 := h.1.1
  have hwm : W.length ≤ 9223372036854775807 := h.2.1
  have hb0 : Below w.heap.size w (w.alloc (.cells #[.slice ak K.length ck, .slice aw W.length cw] 35)) := (Below.refl _ _).alloc (Nat.le_refl _) _
  by_cases h1 : K.length < 1
  · have Hf := Lib.hid (diskOk_n1 (d := (K, W)) h1)
    go_enter Try.func129, Try.ntmps129
    go_wp2_with fail
    go_ret
    exact ⟨by rw [Hf.out]; rfl, hb0⟩
  by_cases h2 : 40 < K.length
  · have Hf := Lib.hid (diskOk_n2 (d := (K, W)) h2)
    go_enter Try.func129, Try.ntmps129
    go_wp2_with fail
    go_ret
    exact ⟨by rw [Hf.out]; rfl, hb0⟩
  by_cases h3 : 60 < W.length
  · have Hf := Lib.hid (diskOk_n3 (d := (K, W)) h3)
    go_enter Try.func129, Try.ntmps129
    go_wp2_with fail
    go_ret
    exact ⟨by rw [Hf.out]; rfl, hb0⟩
  have HK : Hid (∀ V, Below w.heap.size w V → RowsR V ak K) := fun V hb => h.1.below hb
  have HW : Hid (∀ V, Below w.heap.size w V → WritesR V aw W) := fun V hb => h.2.below hb
  clear h
  go_enter Try.func129, Try.ntmps129
  go_wp2_with fail
  go_loop [3] (fun i => ∃ k : Nat, k ≤ K.length ∧ i = .int .i64 k ∧ Hid (∀ j (hj : j < K.length), j < k → rowOk K[j] = true)) (fun i => K.length - (intOf i).toNat)
  case atStart => exact ⟨0, Nat.zero_le _, rfl, fun j _ hj => by omega⟩
  case round =>
    obtain ⟨k, hk, rfl, Hall⟩ := hrel
    by_cases hlt : k < K.length
    · have hp : (k : Int) < (K.length : Int) := by omega
      obtain ⟨b, off, rfl, hbl, hc⟩ := (HK.out _ hb0).at hlt
      obtain ⟨ai, ci, hcell, hr, _⟩ := hc k hlt
      clear hc
      cases hro : rowOk K[k]
      · have Hf := Lib.hid (diskOk_n4 (d := (K, W)) hlt hro)
        go_wp2_with fail
        refine (c_spec_RowOk ai ci K[k] _ hr).mono ?_
        rw [hro]
        rintro e w5 ⟨rfl, rfl⟩
        go_wp2_with fail
        go_ret
        exact ⟨by rw [Hf.out]; rfl, hb0⟩
      · have Hro := Lib.hid hro
        go_wp2_with fail
        refine (c_spec_RowOk ai ci K[k] _ hr).mono ?_
        rw [hro]
        rintro e w5 ⟨rfl, rfl⟩
        go_wp2_with fail
        go_round
        case rel => exact ⟨k + 1, by omega, by go_num, fun j hj hjk => by
          by_cases he : j = k
          · subst he; exact Hro.out
          · exact Hall.out j hj (by omega)⟩
        case measure => simp [intOf]; omega
    · obtain rfl : k = K.length := by omega
      have hBx := Bx.new w [.slice ak K.length ck, .slice aw W.length cw] 35
      have HBx0 := Lib.hid hBx
      clear hBx
      go_wp2_with fail
      go_loopw [4] (fun i wr => ∃ k : Nat, k ≤ W.length ∧ i = .int .i64 k ∧ Hid (∀ j (hj : j < W.length), j < k → wrOk K.length W[j] = true) ∧ Bx wr w.heap.size [.slice ak K.length ck, .slice aw W.length cw] ∧ Below w.heap.size w wr) (fun i _ => W.length - (intOf i).toNat)
      case atStart => exact ⟨0, Nat.zero_le _, rfl, fun j _ hj => by omega, HBx0.out, hb0⟩
      case round =>
        clear hlt hk hb0
        obtain ⟨k, hk, rfl, Hall2, hBx, hbel⟩ := hrel
        have q0 := hBx.2
        have hbx := hBx.1
        have HBx := Lib.hid hBx
        clear hBx
        by_cases hlt : k < W.length
        · have hp : (k : Int) < (W.length : Int) := by omega
          obtain ⟨b, off, rfl, hbl, hc⟩ := (HW.out _ hbel).at hlt
          obtain ⟨_, hc0, ai, ci, hcell, hr, _⟩ := hc k hlt
          obtain ⟨a, r, hd⟩ : ∃ a r, W[k] = (a, r) := ⟨_, _, rfl⟩
          have Hd := Lib.hid hd
          rw [hd] at hc0 hcell hr
          simp only at hc0 hcell hr
          clear hc hd
          cases hin : inB a 0 ((K.length : Int) - 1)
          · have Hf := Lib.hid (diskOk_n5 (d := (K, W)) hlt (by rw [Hd.out]; simp [wrOk, hin]))
            go_wp2_with fail
            refine restS_begin (fun V => Below wr.heap.size wr V) (by kernel_rfl) (Below.refl _ _).drew ?_
            refine restS_take (v := ?_) 0 rfl (by kernel_rfl) (by kernel_rfl) (by kernel_rfl) (fun _ _ _ h => h) (by rfl) ?_ ?_
            rotate_left
            · intro w9 h9; try dsimp only at h9
              obtain ⟨x9, rfl⟩ := later_of h9
              go_simp; try with_reducible rfl
            try simp only [Act.put, List.setIfInBounds_toArray, List.set_cons_zero, List.set_cons_succ]
            refine restS_take (v := ?_) 1 rfl (by kernel_rfl) (by kernel_rfl) (by kernel_rfl) (fun _ _ _ h => h) (by rfl) ?_ ?_
            rotate_left
            · intro w9 h9; try dsimp only at h9
              go_split_ands
              go_simp; try with_reducible rfl
            try simp only [Act.put, List.setIfInBounds_toArray, List.set_cons_zero, List.set_cons_succ]
            refine restS_take (v := ?_) 2 rfl (by kernel_rfl) (by kernel_rfl) (by kernel_rfl) (fun _ _ _ h => h) (by rfl) ?_ ?_
            rotate_left
            · intro w9 h9; try dsimp only at h9
              obtain ⟨x9, rfl⟩ := later_of h9
              go_simp; try with_reducible rfl
            try simp only [Act.put, List.setIfInBounds_toArray, List.set_cons_zero, List.set_cons_succ]
            refine restS_take (v := ?_) 3 rfl (by kernel_rfl) (by kernel_rfl) (by kernel_rfl) (fun _ _ _ h => h) (by rfl) ?_ ?_
            rotate_left
            · intro w9 h9; try dsimp only at h9
              go_split_ands
              go_simp; try with_reducible rfl
            try simp only [Act.put, List.setIfInBounds_toArray, List.set_cons_zero, List.set_cons_succ]
            refine restS_take (v := ?_) 4 rfl (by kernel_rfl) (by kernel_rfl) (by kernel_rfl) (fun _ _ _ h => h) (by rfl) ?_ ?_
            rotate_left
            · intro w9 h9; try dsimp only at h9
              go_split_ands
              go_simp; try with_reducible rfl
            try simp only [Act.put, List.setIfInBounds_toArray, List.set_cons_zero, List.set_cons_succ]
            refine restS_take (v := ?_) 5 rfl (by kernel_rfl) (by kernel_rfl) (by kernel_rfl) (fun _ _ _ h => h) (by rfl) ?_ ?_
            rotate_left
            · intro w9 h9; try dsimp only at h9
              go_split_ands
              go_simp; try with_reducible rfl
            try simp only [Act.put, List.setIfInBounds_toArray, List.set_cons_zero, List.set_cons_succ]
            refine restS_take (v := ?_) 6 rfl (by kernel_rfl) (by kernel_rfl) (by kernel_rfl) (fun _ _ _ h => h) (by rfl) ?_ ?_
            rotate_left
            · intro w9 h9; try dsimp only at h9
              obtain ⟨x9, rfl⟩ := later_of h9
              go_simp; try with_reducible rfl
            try simp only [Act.put, List.setIfInBounds_toArray, List.set_cons_zero, List.set_cons_succ]
            refine restS_alone 7 rfl (by kernel_rfl) (by rfl) (fun hS K hK => ?_)
            go_wp2_with fail
            refine (c_spec_hasAt _ _ _ _ _ _ a _ hkm).mono ?_
            rw [hin]
            rintro e w5 ⟨rfl, hb5⟩
            refine hK.out _ _ (bl_step hb5 hS.size hS) ?_
            try simp only [Act.put, List.setIfInBounds_toArray, List.set_cons_zero, List.set_cons_succ]
            clear hK K hS hb5
            refine restS_take (v := ?_) 8 rfl (by kernel_rfl) (by kernel_rfl) (by kernel_rfl) (fun _ _ _ h => h) (by rfl) ?_ ?_
            rotate_left
            · intro w9 h9; try dsimp only at h9
              go_split_ands
              go_simp; try with_reducible rfl
            try simp only [Act.put, List.setIfInBounds_toArray, List.set_cons_zero, List.set_cons_succ]
            refine restS_take (v := ?_) 9 rfl (by kernel_rfl) (by kernel_rfl) (by kernel_rfl) (fun _ _ _ h => h) (by rfl) ?_ ?_
            rotate_left
            · intro w9 h9; try dsimp only at h9
              go_split_ands
              go_simp; try with_reducible rfl
            try simp only [Act.put, List.setIfInBounds_toArray, List.set_cons_zero, List.set_cons_succ]
            refine restS_skip 10 rfl (by kernel_rfl) (by kernel_rfl) (by kernel_rfl) (fun _ _ _ h => h) (by rfl) ?_
            try simp only [Act.put, List.setIfInBounds_toArray, List.set_cons_zero, List.set_cons_succ]
            refine restS_skip 11 rfl (by kernel_rfl) (by kernel_rfl) (by kernel_rfl) (fun _ _ _ h => h) (by rfl) ?_
            try simp only [Act.put, List.setIfInBounds_toArray, List.set_cons_zero, List.set_cons_succ]
            refine restS_skip 12 rfl (by kernel_rfl) (by kernel_rfl) (by kernel_rfl) (fun _ _ _ h => h) (by rfl) ?_
            try simp only [Act.put, List.setIfInBounds_toArray, List.set_cons_zero, List.set_cons_succ]
            refine restS_skip 13 rfl (by kernel_rfl) (by kernel_rfl) (by kernel_rfl) (fun _ _ _ h => h) (by rfl) ?_
            try simp only [Act.put, List.setIfInBounds_toArray, List.set_cons_zero, List.set_cons_succ]
            refine restS_skip 14 rfl (by kernel_rfl) (by kernel_rfl) (by kernel_rfl) (fun _ _ _ h => h) (by rfl) ?_
            try simp only [Act.put, List.setIfInBounds_toArray, List.set_cons_zero, List.set_cons_succ]
            refine restS_skip 15 rfl (by kernel_rfl) (by kernel_rfl) (by kernel_rfl) (fun _ _ _ h => h) (by rfl) ?_
            try simp only [Act.put, List.setIfInBounds_toArray, List.set_cons_zero, List.set_cons_succ]
            refine restS_skip 16 rfl (by kernel_rfl) (by kernel_rfl) (by kernel_rfl) (fun _ _ _ h => h) (by rfl) ?_
            try simp only [Act.put, List.setIfInBounds_toArray, List.set_cons_zero, List.set_cons_succ]
            refine restS_skip 17 rfl (by kernel_rfl) (by kernel_rfl) (by kernel_rfl) (fun _ _ _ h => h) (by rfl) ?_
            try simp only [Act.put, List.setIfInBounds_toArray, List.set_cons_zero, List.set_cons_succ]
            refine restS_take (v := ?_) 18 rfl (by kernel_rfl) (by kernel_rfl) (by kernel_rfl) (fun _ _ _ h => h) (by rfl) ?_ ?_
            rotate_left
            · intro w9 h9; try dsimp only at h9
              go_split_ands
              go_simp; try with_reducible rfl
            try simp only [Act.put, List.setIfInBounds_toArray, List.set_cons_zero, List.set_cons_succ]
            refine restS_done (by kernel_rfl) (fun hS => ?_)
            go_wp2_with fail
            go_ret
            exact ⟨by rw [Hf.out]; rfl, bl_step hS hbel.size hbel⟩
          · cases hro : rowOk r
            · have Hf := Lib.hid (diskOk_n5 (d := (K, W)) hlt (by rw [Hd.out]; simp [wrOk, hro]))
              go_wp2_with fail
              refine restS_begin (fun V => Below wr.heap.size wr V) (by kernel_rfl) (Below.refl _ _).drew ?_
              refine restS_take (v := ?_) 0 rfl (by kernel_rfl) (by kernel_rfl) (by kernel_rfl) (fun _ _ _ h => h) (by rfl) ?_ ?_
              rotate_left
              · intro w9 h9; try dsimp only at h9
                obtain ⟨x9, rfl⟩ := later_of h9
                go_simp; try with_reducible rfl
              try simp only [Act.put, List.setIfInBounds_toArray, List.set_cons_zero, List.set_cons_succ]
              refine restS_take (v := ?_) 1 rfl (by kernel_rfl) (by kernel_rfl) (by kernel_rfl) (fun _ _ _ h => h) (by rfl) ?_ ?_
              rotate_left
              · intro w9 h9; try dsimp only at h9
                go_split_ands
                go_simp; try with_reducible rfl
              try simp only [Act.put, List.setIfInBounds_toArray, List.set_cons_zero, List.set_cons_succ]
              refine restS_take (v := ?_) 2 rfl (by kernel_rfl) (by kernel_rfl) (by kernel_rfl) (fun _ _ _ h => h) (by rfl) ?_ ?_
              rotate_left
              · intro w9 h9; try dsimp only at h9
                obtain ⟨x9, rfl⟩ := later_of h9
                go_simp; try with_reducible rfl
              try simp only [Act.put, List.setIfInBounds_toArray, List.set_cons_zero, List.set_cons_succ]
              refine restS_take (v := ?_) 3 rfl (by kernel_rfl) (by kernel_rfl) (by kernel_rfl) (fun _ _ _ h => h) (by rfl) ?_ ?_
              rotate_left
              · intro w9 h9; try dsimp only at h9
                go_split_ands
                go_simp; try with_reducible rfl
              try simp only [Act.put, List.setIfInBounds_toArray, List.set_cons_zero, List.set_cons_succ]
              refine restS_take (v := ?_) 4 rfl (by kernel_rfl) (by kernel_rfl) (by kernel_rfl) (fun _ _ _ h => h) (by rfl) ?_ ?_
              rotate_left
              · intro w9 h9; try dsimp only at h9
                go_split_ands
                go_simp; try with_reducible rfl
              try simp only [Act.put, List.setIfInBounds_toArray, List.set_cons_zero, List.set_cons_succ]
              refine restS_take (v := ?_) 5 rfl (by kernel_rfl) (by kernel_rfl) (by kernel_rfl) (fun _ _ _ h => h) (by rfl) ?_ ?_
              rotate_left
              · intro w9 h9; try dsimp only at h9
                go_split_ands
                go_simp; try with_reducible rfl
              try simp only [Act.put, List.setIfInBounds_toArray, List.set_cons_zero, List.set_cons_succ]
              refine restS_take (v := ?_) 6 rfl (by kernel_rfl) (by kernel_rfl) (by kernel_rfl) (fun _ _ _ h => h) (by rfl) ?_ ?_
              rotate_left
              · intro w9 h9; try dsimp only at h9
                obtain ⟨x9, rfl⟩ := later_of h9
                go_simp; try with_reducible rfl
              try simp only [Act.put, List.setIfInBounds_toArray, List.set_cons_zero, List.set_cons_succ]
              refine restS_alone 7 rfl (by kernel_rfl) (by rfl) (fun hS K hK => ?_)
              go_wp2_with fail
              refine (c_spec_hasAt _ _ _ _ _ _ a _ hkm).mono ?_
              rw [hin]
              rintro e w5 ⟨rfl, hb5⟩
              refine hK.out _ _ (bl_step hb5 hS.size hS) ?_
              try simp only [Act.put, List.setIfInBounds_toArray, List.set_cons_zero, List.set_cons_succ]
              clear hK K hS hb5
              refine restS_take (v := ?_) 8 rfl (by kernel_rfl) (by kernel_rfl) (by kernel_rfl) (fun _ _ _ h => h) (by rfl) ?_ ?_
              rotate_left
              · intro w9 h9; try dsimp only at h9
                go_split_ands
                go_simp; try with_reducible rfl
              try simp only [Act.put, List.setIfInBounds_toArray, List.set_cons_zero, List.set_cons_succ]
              refine restS_take (v := ?_) 9 rfl (by kernel_rfl) (by kernel_rfl) (by kernel_rfl) (fun _ _ _ h => h) (by rfl) ?_ ?_
              rotate_left
              · intro w9 h9; try dsimp only at h9
                go_split_ands
                go_simp; try with_reducible rfl
              try simp only [Act.put, List.setIfInBounds_toArray, List.set_cons_zero, List.set_cons_succ]
              refine restS_take (v := ?_) 10 rfl (by kernel_rfl) (by kernel_rfl) (by kernel_rfl) (fun _ _ _ h => h) (by rfl) ?_ ?_
              rotate_left
              · intro w9 h9; try dsimp only at h9
                go_split_ands
                go_simp; try with_reducible rfl
              try simp only [Act.put, List.setIfInBounds_toArray, List.set_cons_zero, List.set_cons_succ]
              refine restS_take (v := ?_) 11 rfl (by kernel_rfl) (by kernel_rfl) (by kernel_rfl) (fun _ _ _ h => h) (by rfl) ?_ ?_
              rotate_left
              · intro w9 h9; try dsimp only at h9
                obtain ⟨x9, rfl⟩ := later_of h9
                go_simp; try with_reducible rfl
              try simp only [Act.put, List.setIfInBounds_toArray, List.set_cons_zero, List.set_cons_succ]
              refine restS_take (v := ?_) 12 rfl (by kernel_rfl) (by kernel_rfl) (by kernel_rfl) (fun _ _ _ h => h) (by rfl) ?_ ?_
              rotate_left
              · intro w9 h9; try dsimp only at h9
                go_split_ands
                go_simp; try with_reducible rfl
              try simp only [Act.put, List.setIfInBounds_toArray, List.set_cons_zero, List.set_cons_succ]
              refine restS_take (v := ?_) 13 rfl (by kernel_rfl) (by kernel_rfl) (by kernel_rfl) (fun _ _ _ h => h) (by rfl) ?_ ?_
              rotate_left
              · intro w9 h9; try dsimp only at h9
                go_split_ands
                go_simp; try with_reducible rfl
              try simp only [Act.put, List.setIfInBounds_toArray, List.set_cons_zero, List.set_cons_succ]
              refine restS_take (v := ?_) 14 rfl (by kernel_rfl) (by kernel_rfl) (by kernel_rfl) (fun _ _ _ h => h) (by rfl) ?_ ?_
              rotate_left
              · intro w9 h9; try dsimp only at h9
                go_split_ands
                go_simp; try with_reducible rfl
              try simp only [Act.put, List.setIfInBounds_toArray, List.set_cons_zero, List.set_cons_succ]
              refine restS_take (v := ?_) 15 rfl (by kernel_rfl) (by kernel_rfl) (by kernel_rfl) (fun _ _ _ h => h) (by rfl) ?_ ?_
              rotate_left
              · intro w9 h9; try dsimp only at h9
                obtain ⟨x9, rfl⟩ := later_of h9
                go_simp; try with_reducible rfl
              try simp only [Act.put, List.setIfInBounds_toArray, List.set_cons_zero, List.set_cons_succ]
              refine restS_alone 16 rfl (by kernel_rfl) (by rfl) (fun hS K hK => ?_)
              go_wp2_with fail
              refine (c_spec_RowOk ai ci r _ (hr.below hS)).mono ?_
              rw [hro]
              rintro e w5 ⟨rfl, rfl⟩
              refine hK.out _ _ hS ?_
              try simp only [Act.put, List.setIfInBounds_toArray, List.set_cons_zero, List.set_cons_succ]
              clear hK K hS
              refine restS_take (v := ?_) 17 rfl (by kernel_rfl) (by kernel_rfl) (by kernel_rfl) (fun _ _ _ h => h) (by rfl) ?_ ?_
              rotate_left
              · intro w9 h9; try dsimp only at h9
                go_split_ands
                go_simp; try with_reducible rfl
              try simp only [Act.put, List.setIfInBounds_toArray, List.set_cons_zero, List.set_cons_succ]
              refine restS_take (v := ?_) 18 rfl (by kernel_rfl) (by kernel_rfl) (by kernel_rfl) (fun _ _ _ h => h) (by rfl) ?_ ?_
              rotate_left
              · intro w9 h9; try dsimp only at h9
                go_split_ands
                go_simp; try with_reducible rfl
              try simp only [Act.put, List.setIfInBounds_toArray, List.set_cons_zero, List.set_cons_succ]
              refine restS_done (by kernel_rfl) (fun hS => ?_)
              go_wp2_with fail
              go_ret
              exact ⟨by rw [Hf.out]; rfl, bl_step hS hbel.size hbel⟩
            · have Hk : Hid (wrOk K.length W[k] = true) := by rw [Hd.out]; simp [wrOk, hin, hro, Hid]
              go_wp2_with fail
              refine restS_begin (fun V => Below wr.heap.size wr V) (by kernel_rfl) (Below.refl _ _).drew ?_
              refine restS_take (v := ?_) 0 rfl (by kernel_rfl) (by kernel_rfl) (by kernel_rfl) (fun _ _ _ h => h) (by rfl) ?_ ?_
              rotate_left
              · intro w9 h9; try dsimp only at h9
                obtain ⟨x9, rfl⟩ := later_of h9
                go_simp; try with_reducible rfl
              try simp only [Act.put, List.setIfInBounds_toArray, List.set_cons_zero, List.set_cons_succ]
              refine restS_take (v := ?_) 1 rfl (by kernel_rfl) (by kernel_rfl) (by kernel_rfl) (fun _ _ _ h => h) (by rfl) ?_ ?_
              rotate_left
              · intro w9 h9; try dsimp only at h9
                go_split_ands
                go_simp; try with_reducible rfl
              try simp only [Act.put, List.setIfInBounds_toArray, List.set_cons_zero, List.set_cons_succ]
              refine restS_take (v := ?_) 2 rfl (by kernel_rfl) (by kernel_rfl) (by kernel_rfl) (fun _ _ _ h => h) (by rfl) ?_ ?_
              rotate_left
              · intro w9 h9; try dsimp only at h9
                obtain ⟨x9, rfl⟩ := later_of h9
                go_simp; try with_reducible rfl
              try simp only [Act.put, List.setIfInBounds_toArray, List.set_cons_zero, List.set_cons_succ]
              refine restS_take (v := ?_) 3 rfl (by kernel_rfl) (by kernel_rfl) (by kernel_rfl) (fun _ _ _ h => h) (by rfl) ?_ ?_
              rotate_left
              · intro w9 h9; try dsimp only at h9
                go_split_ands
                go_simp; try with_reducible rfl
              try simp only [Act.put, List.setIfInBounds_toArray, List.set_cons_zero, List.set_cons_succ]
              refine restS_take (v := ?_) 4 rfl (by kernel_rfl) (by kernel_rfl) (by kernel_rfl) (fun _ _ _ h => h) (by rfl) ?_ ?_
              rotate_left
              · intro w9 h9; try dsimp only at h9
                go_split_ands
                go_simp; try with_reducible rfl
              try simp only [Act.put, List.setIfInBounds_toArray, List.set_cons_zero, List.set_cons_succ]
              refine restS_take (v := ?_) 5 rfl (by kernel_rfl) (by kernel_rfl) (by kernel_rfl) (fun _ _ _ h => h) (by rfl) ?_ ?_
              rotate_left
              · intro w9 h9; try dsimp only at h9
                go_split_ands
                go_simp; try with_reducible rfl
              try simp only [Act.put, List.setIfInBounds_toArray, List.set_cons_zero, List.set_cons_succ]
              refine restS_take (v := ?_) 6 rfl (by kernel_rfl) (by kernel_rfl) (by kernel_rfl) (fun _ _ _ h => h) (by rfl) ?_ ?_
              rotate_left
              · intro w9 h9; try dsimp only at h9
                obtain ⟨x9, rfl⟩ := later_of h9
                go_simp; try with_reducible rfl
              try simp only [Act.put, List.setIfInBounds_toArray, List.set_cons_zero, List.set_cons_succ]
              refine restS_alone 7 rfl (by kernel_rfl) (by rfl) (fun hS K hK => ?_)
              go_wp2_with fail
              refine (c_spec_hasAt _ _ _ _ _ _ a _ hkm).mono ?_
              rw [hin]
              rintro e w5 ⟨rfl, hb5⟩
              refine hK.out _ _ (bl_step hb5 hS.size hS) ?_
              try simp only [Act.put, List.setIfInBounds_toArray, List.set_cons_zero, List.set_cons_succ]
              clear hK K hS hb5
              refine restS_take (v := ?_) 8 rfl (by kernel_rfl) (by kernel_rfl) (by kernel_rfl) (fun _ _ _ h => h) (by rfl) ?_ ?_
              rotate_left
              · intro w9 h9; try dsimp only at h9
                go_split_ands
                go_simp; try with_reducible rfl
              try simp only [Act.put, List.setIfInBounds_toArray, List.set_cons_zero, List.set_cons_succ]
              refine restS_take (v := ?_) 9 rfl (by kernel_rfl) (by kernel_rfl) (by kernel_rfl) (fun _ _ _ h => h) (by rfl) ?_ ?_
              rotate_left
              · intro w9 h9; try dsimp only at h9
                go_split_ands
                go_simp; try with_reducible rfl
              try simp only [Act.put, List.setIfInBounds_toArray, List.set_cons_zero, List.set_cons_succ]
              refine restS_take (v := ?_) 10 rfl (by kernel_rfl) (by kernel_rfl) (by kernel_rfl) (fun _ _ _ h => h) (by rfl) ?_ ?_
              rotate_left
              · intro w9 h9; try dsimp only at h9
                go_split_ands
                go_simp; try with_reducible rfl
              try simp only [Act.put, List.setIfInBounds_toArray, List.set_cons_zero, List.set_cons_succ]
              refine restS_take (v := ?_) 11 rfl (by kernel_rfl) (by kernel_rfl) (by kernel_rfl) (fun _ _ _ h => h) (by rfl) ?_ ?_
              rotate_left
              · intro w9 h9; try dsimp only at h9
                obtain ⟨x9, rfl⟩ := later_of h9
                go_simp; try with_reducible rfl
              try simp only [Act.put, List.setIfInBounds_toArray, List.set_cons_zero, List.set_cons_succ]
              refine restS_take (v := ?_) 12 rfl (by kernel_rfl) (by kernel_rfl) (by kernel_rfl) (fun _ _ _ h => h) (by rfl) ?_ ?_
              rotate_left
              · intro w9 h9; try dsimp only at h9
                go_split_ands
                go_simp; try with_reducible rfl
              try simp only [Act.put, List.setIfInBounds_toArray, List.set_cons_zero, List.set_cons_succ]
              refine restS_take (v := ?_) 13 rfl (by kernel_rfl) (by kernel_rfl) (by kernel_rfl) (fun _ _ _ h => h) (by rfl) ?_ ?_
              rotate_left
              · intro w9 h9; try dsimp only at h9
                go_split_ands
                go_simp; try with_reducible rfl
              try simp only [Act.put, List.setIfInBounds_toArray, List.set_cons_zero, List.set_cons_succ]
              refine restS_take (v := ?_) 14 rfl (by kernel_rfl) (by kernel_rfl) (by kernel_rfl) (fun _ _ _ h => h) (by rfl) ?_ ?_
              rotate_left
              · intro w9 h9; try dsimp only at h9
                go_split_ands
                go_simp; try with_reducible rfl
              try simp only [Act.put, List.setIfInBounds_toArray, List.set_cons_zero, List.set_cons_succ]
              refine restS_take (v := ?_) 15 rfl (by kernel_rfl) (by kernel_rfl) (by kernel_rfl) (fun _ _ _ h => h) (by rfl) ?_ ?_
              rotate_left
              · intro w9 h9; try dsimp only at h9
                obtain ⟨x9, rfl⟩ := later_of h9
                go_simp; try with_reducible rfl
              try simp only [Act.put, List.setIfInBounds_toArray, List.set_cons_zero, List.set_cons_succ]
              refine restS_alone 16 rfl (by kernel_rfl) (by rfl) (fun hS K hK => ?_)
              go_wp2_with fail
              refine (c_spec_RowOk ai ci r _ (hr.below hS)).mono ?_
              rw [hro]
              rintro e w5 ⟨rfl, rfl⟩
              refine hK.out _ _ hS ?_
              try simp only [Act.put, List.setIfInBounds_toArray, List.set_cons_zero, List.set_cons_succ]
              clear hK K hS
              refine restS_take (v := ?_) 17 rfl (by kernel_rfl) (by kernel_rfl) (by kernel_rfl) (fun _ _ _ h => h) (by rfl) ?_ ?_
              rotate_left
              · intro w9 h9; try dsimp only at h9
                go_split_ands
                go_simp; try with_reducible rfl
              try simp only [Act.put, List.setIfInBounds_toArray, List.set_cons_zero, List.set_cons_succ]
              refine restS_take (v := ?_) 18 rfl (by kernel_rfl) (by kernel_rfl) (by kernel_rfl) (fun _ _ _ h => h) (by rfl) ?_ ?_
              rotate_left
              · intro w9 h9; try dsimp only at h9
                go_split_ands
                go_simp; try with_reducible rfl
              try simp only [Act.put, List.setIfInBounds_toArray, List.set_cons_zero, List.set_cons_succ]
              refine restS_done (by kernel_rfl) (fun hS => ?_)
              go_wp2_with fail
              go_roundw
              case rel => exact ⟨k + 1, by omega, by go_num, fun j hj hjk => by
                by_cases he : j = k
                · subst he; exact Hk.out
                · exact Hall2.out j hj (by omega), HBx.out.below hS, bl_step hS hbel.size hbel⟩
              case measure => simp [intOf]; omega
        · obtain rfl : k = W.length := by omega
          have Hf := Lib.hid (diskOk_y (d := (K, W)) (by show 1 ≤ K.length; omega) (by show K.length ≤ 40; omega) (by show W.length ≤ 60; omega) (fun j hj => Hall.out j hj hj) (fun j hj => Hall2.out j hj hj))
          go_wp2_with fail
          go_ret
          exact ⟨by rw [Hf.out]; rfl, hbel⟩
theorem c_impl_DiskOk (ak aw : Option Addr) (ck cw : Nat) (K : List (List Int)) (W : List (Int × List Int)) (w : World) (h : DiskR w ak aw (K, W)) :
    Calls Try.prog 155 #[.agg #[.slice ak K.length ck, .slice aw W.length cw]] w fun e w' => e = .returned (.bool (diskOk (K, W))) ∧ Below w.heap.size w w' := by
  have hkm : K.length ≤ 9223372036854775807 := h.1.1
  have hwm : W.length ≤ 9223372036854775807 := h.2.1
  have hb0 : Below w.heap.size w (w.alloc (.cells #[.slice ak K.length ck, .slice aw W.length cw] 35)) := (Below.refl _ _).alloc (Nat.le_refl _) _
  by_cases h1 : K.length < 1
  · have Hf := Lib.hid (diskOk_n1 (d := (K, W)) h1)
    go_enter Try.func155, Try.ntmps155
    go_wp2_with fail
    go_ret
    exact ⟨by rw [Hf.out]; rfl, hb0⟩
  by_cases h2 : 40 < K.length
  · have Hf := Lib.hid (diskOk_n2 (d := (K, W)) h2)
    go_enter Try.func155, Try.ntmps155
    go_wp2_with fail
    go_ret
    exact ⟨by rw [Hf.out]; rfl, hb0⟩
  by_cases h3 : 60 < W.length
  · have Hf := Lib.hid (diskOk_n3 (d := (K, W)) h3)
    go_enter Try.func155, Try.ntmps155
    go_wp2_with fail
    go_ret
    exact ⟨by rw [Hf.out]; rfl, hb0⟩
  have HK : Hid (∀ V, Below w.heap.size w V → RowsR V ak K) := fun V hb => h.1.below hb
  have HW : Hid (∀ V, Below w.heap.size w V → WritesR V aw W) := fun V hb => h.2.below hb
  clear h
  go_enter Try.func155, Try.ntmps155
  go_wp2_with fail
  go_loop [26] (fun i => ∃ k : Nat, k ≤ K.length ∧ i = .int .i64 k ∧ Hid (∀ j (hj : j < K.length), j < k → rowOk K[j] = true)) (fun i => K.length - (intOf i).toNat)
  case atStart => exact ⟨0, Nat.zero_le _, rfl, fun j _ hj => by omega⟩
  case round =>
    obtain ⟨k, hk, rfl, Hall⟩ := hrel
    by_cases hlt : k < K.length
    · have hp : (k : Int) < (K.length : Int) := by omega
      obtain ⟨b, off, rfl, hbl, hc⟩ := (HK.out _ hb0).at hlt
      obtain ⟨ai, ci, hcell, hr, _⟩ := hc k hlt
      clear hc
      cases hro : rowOk K[k]
      · have Hf := Lib.hid (diskOk_n4 (d := (K, W)) hlt hro)
        go_wp2_with fail
        refine (c_impl_RowOk ai ci K[k] _ hr).mono ?_
        rw [hro]
        rintro e w5 ⟨rfl, rfl⟩
        go_wp2_with fail
        go_ret
        exact ⟨by rw [Hf.out]; rfl, hb0⟩
      · have Hro := Lib.hid hro
        go_wp2_with fail
        refine (c_impl_RowOk ai ci K[k] _ hr).mono ?_
        rw [hro]
        rintro e w5 ⟨rfl, rfl⟩
        go_wp2_with fail
        go_round
        case rel => exact ⟨k + 1, by omega, by go_num, fun j hj hjk => by
          by_cases he : j = k
          · subst he; exact Hro.out
          · exact Hall.out j hj (by omega)⟩
        case measure => simp [intOf]; omega
    · obtain rfl : k = K.length := by omega
      have hBx := Bx.new w [.slice ak K.length ck, .slice aw W.length cw] 35
      have HBx0 := Lib.hid hBx
      clear hBx
      go_wp2_with fail
      go_loopw [37] (fun i wr => ∃ k : Nat, k ≤ W.length ∧ i = .int .i64 k ∧ Hid (∀ j (hj : j < W.length), j < k → wrOk K.length W[j] = true) ∧ Bx wr w.heap.size [.slice ak K.length ck, .slice aw W.length cw] ∧ Below w.heap.size w wr) (fun i _ => W.length - (intOf i).toNat)
      case atStart => exact ⟨0, Nat.zero_le _, rfl, fun j _ hj => by omega, HBx0.out, hb0⟩
      case round =>
        clear hlt hk hb0
        obtain ⟨k, hk, rfl, Hall2, hBx, hbel⟩ := hrel
        have q0 := hBx.2
        have hbx := hBx.1
        have HBx := Lib.hid hBx
        clear hBx
        by_cases hlt : k < W.length
        · have hp : (k : Int) < (W.length : Int) := by omega
          obtain ⟨b, off, rfl, hbl, hc⟩ := (HW.out _ hbel).at hlt
          obtain ⟨_, hc0, ai, ci, hcell, hr, _⟩ := hc k hlt
          obtain ⟨a, r, hd⟩ : ∃ a r, W[k] = (a, r) := ⟨_, _, rfl⟩
          have Hd := Lib.hid hd
          rw [hd] at hc0 hcell hr
          simp only at hc0 hcell hr
          clear hc hd
          cases hin : inB a 0 ((K.length : Int) - 1)
          · have Hf := Lib.hid (diskOk_n5 (d := (K, W)) hlt (by rw [Hd.out]; simp [wrOk, hin]))
            have hBw := Bx.new wr [.int .i64 a, .slice ai r.length ci] 124
            have hbw := (Below.refl _ wr).alloc (Nat.le_refl _) (.cells #[.int .i64 a, .slice ai r.length ci] 124)
            go_wp2_with fail
            refine (c_impl_hasAt _ _ _ _ _ _ a _ hkm).mono ?_
            rw [hin]
            rintro e w5 ⟨rfl, hb5⟩
            replace hBw := hBw.below hb5
            replace hbw := bl_step hb5 hbw.size hbw
            have q6 := hBw.2
            clear hb5
            go_wp2_with fail
            go_ret
            exact ⟨by rw [Hf.out]; rfl, bl_step hbw hbel.size hbel⟩
          · cases hro : rowOk r
            · have Hf := Lib.hid (diskOk_n5 (d := (K, W)) hlt (by rw [Hd.out]; simp [wrOk, hro]))
              have hBw := Bx.new wr [.int .i64 a, .slice ai r.length ci] 124
              have hbw := (Below.refl _ wr).alloc (Nat.le_refl _) (.cells #[.int .i64 a, .slice ai r.length ci] 124)
              go_wp2_with fail
              refine (c_impl_hasAt _ _ _ _ _ _ a _ hkm).mono ?_
              rw [hin]
              rintro e w5 ⟨rfl, hb5⟩
              replace hBw := hBw.below hb5
              replace hbw := bl_step hb5 hbw.size hbw
              have q6 := hBw.2
              clear hb5
              go_wp2_with fail
              refine (c_impl_RowOk ai ci r _ (hr.below hbw)).mono ?_
              rw [hro]
              rintro e w6 ⟨rfl, rfl⟩
              go_wp2_with fail
              go_ret
              exact ⟨by rw [Hf.out]; rfl, bl_step hbw hbel.size hbel⟩
            · have Hk : Hid (wrOk K.length W[k] = true) := by rw [Hd.out]; simp [wrOk, hin, hro, Hid]
              have hBw := Bx.new wr [.int .i64 a, .slice ai r.length ci] 124
              have hbw := (Below.refl _ wr).alloc (Nat.le_refl _) (.cells #[.int .i64 a, .slice ai r.length ci] 124)
              go_wp2_with fail
              refine (c_impl_hasAt _ _ _ _ _ _ a _ hkm).mono ?_
              rw [hin]
              rintro e w5 ⟨rfl, hb5⟩
              replace hBw := hBw.below hb5
              replace hbw := bl_step hb5 hbw.size hbw
              have q6 := hBw.2
              clear hb5
              go_wp2_with fail
              refine (c_impl_RowOk ai ci r _ (hr.below hbw)).mono ?_
              rw [hro]
              rintro e w6 ⟨rfl, rfl⟩
              go_wp2_with fail
              go_roundw
              case rel => exact ⟨k + 1, by omega, by go_num, fun j hj hjk => by
                by_cases he : j = k
                · subst he; exact Hk.out
                · exact Hall2.out j hj (by omega), HBx.out.below hbw, bl_step hbw hbel.size hbel⟩
              case measure => simp [intOf]; omega
        · obtain rfl : k = W.length := by omega
          have Hf := Lib.hid (diskOk_y (d := (K, W)) (by show 1 ≤ K.length; omega) (by show K.length ≤ 40; omega) (by show W.length ≤ 60; omega) (fun j hj => Hall.out j hj hj) (fun j hj => Hall2.out j hj hj))
          go_wp2_with fail
          go_ret
          exact ⟨by rw [Hf.out]; rfl, hbel⟩

end Go.Proofs.Ytmjafclpeknpcaa
