/- Walks of functions of the program, printed by a program of the prover. -/
import Derived.Test.YtpfkfppooeikeaaDec
import Derived.Test.YtpfkfppooeikeaaTake
namespace Go.Proofs.Ytpfkfppooeikeaa
open Go.RowKit
set_option maxHeartbeats 400000
set_option maxRecDepth 100000
theorem c_clos_trim (ao : Option Addr) (cap : Nat) (x : Int) (w : World) (h : IntsR w ao [x]) :
    Calls Try.prog 102 #[.slice ao 1 cap] w fun e w' => e = .returned (.int .i64 x) ∧ w = w' := by
  obtain ⟨b, off, rfl, hbl, hr0, hc⟩ := h.at (k := 0) (by simp)
  have hck := hc 0 (by simp)
  clear hc
  simp only [List.getElem_cons_zero, Nat.add_zero] at hck hr0
  go_enter Try.func102, Try.ntmps102
  go_wp2
  go_ret
  exact ⟨rfl, rfl⟩
theorem c_decoded_trim (ao : Option Addr) (cap : Nat) (l : List Int) (w : World) (h : IntsR w ao l) (hcap : l.length ≤ cap) :
    Calls Try.prog 101 #[.slice ao l.length cap, .int .i64 5, .int .i64 1, .int .i64 1, .func (Fn.func 102) #[] #[]] w fun e w' => e = .returned (.tuple #[.int .i64 (oneOf l 5 1 2000), .bool (oneIs l 5 1 2000)]) ∧ Below w.heap.size w w' := by
  have hm := h.2.1
  cases hk : (kindOf l != 5)
  · obtain ⟨hl0, hl1, hd⟩ := kindOf_pos hk (by omega)
    by_cases h2 : l.length = 2
    · obtain ⟨x0, x1, rfl⟩ : ∃ x0 x1, l = [x0, x1] := by
        match l, h2 with | [a, b], _ => exact ⟨a, b, rfl⟩
      obtain ⟨b, off, rfl, hbl, hr0, hc⟩ := h.at (k := 1) (by simp)
      have hr1 : IntsR w (some ⟨b, off + 1, none⟩) [x1] := h.tail
      obtain rfl : x0 = 5 := by simpa using hd
      clear hd hl0 hl1 h2 hc
      simp only [List.getElem_cons_succ, List.getElem_cons_zero, List.length_cons, List.length_nil, Nat.zero_add, Nat.reduceAdd] at hr0 hm h hcap ⊢
      have H := Lib.hid h
      have H1 := Lib.hid hr1
      cases hE : inB x1 1 2000
      · skip
        go_enter Try.func101, Try.ntmps101
        go_wp2_with (first | (go_at_call 90; refine (c_impl_KindOf _ _ [5, x1] _ h).mono ?_; rintro e w' ⟨rfl, rfl⟩) | (go_at_call 102; refine (c_clos_trim _ _ x1 _ hr1).mono ?_; rintro e w' ⟨rfl, rfl⟩))
        refine rest_begin (by kernel_rfl) ?_
        refine rest_take (v := ?_) 0 rfl (by kernel_rfl) (by kernel_rfl) (by kernel_rfl) (fun _ _ _ h => h) (by rfl) ?_ ?_
        rotate_left
        · intro w9; go_simp; try with_reducible rfl
        try simp only [Act.put, List.setIfInBounds_toArray, List.set_cons_zero, List.set_cons_succ]
        refine rest_take (v := ?_) 1 rfl (by kernel_rfl) (by kernel_rfl) (by kernel_rfl) (fun _ _ _ h => h) (by rfl) ?_ ?_
        rotate_left
        · intro w9; go_simp; try with_reducible rfl
        try simp only [Act.put, List.setIfInBounds_toArray, List.set_cons_zero, List.set_cons_succ]
        refine rest_alone 2 rfl (by kernel_rfl) (by rfl) (fun K hK => ?_)
        go_wp2_with fail
        rw [run_method_direct (f := 218)]
        rotate_left
        · kernel_rfl
        go_wp2_with fail
        refine (c_trim_valid x1 _).mono ?_
        rintro e w1 ⟨rfl, rfl⟩
        go_wp2_with fail
        refine hK.out _ _ ?_
        try simp only [Act.put, List.setIfInBounds_toArray, List.set_cons_zero, List.set_cons_succ]
        clear hK K
        refine rest_take (v := ?_) 3 rfl (by kernel_rfl) (by kernel_rfl) (by kernel_rfl) (fun _ _ _ h => h) (by rfl) ?_ ?_
        rotate_left
        · intro w9; go_simp; try with_reducible rfl
        try simp only [Act.put, List.setIfInBounds_toArray, List.set_cons_zero, List.set_cons_succ]
        refine rest_take (v := ?_) 4 rfl (by kernel_rfl) (by kernel_rfl) (by kernel_rfl) (fun _ _ _ h => h) (by rfl) ?_ ?_
        rotate_left
        · intro w9; go_simp; try with_reducible rfl
        try simp only [Act.put, List.setIfInBounds_toArray, List.set_cons_zero, List.set_cons_succ]
        refine rest_skip 5 rfl (by kernel_rfl) (by kernel_rfl) (by kernel_rfl) (fun _ _ _ h => h) (by rfl) ?_
        try simp only [Act.put, List.setIfInBounds_toArray, List.set_cons_zero, List.set_cons_succ]
        refine rest_skip 6 rfl (by kernel_rfl) (by kernel_rfl) (by kernel_rfl) (fun _ _ _ h => h) (by rfl) ?_
        try simp only [Act.put, List.setIfInBounds_toArray, List.set_cons_zero, List.set_cons_succ]
        refine rest_skip 8 rfl (by kernel_rfl) (by kernel_rfl) (by kernel_rfl) (fun _ _ _ h => h) (by rfl) ?_
        try simp only [Act.put, List.setIfInBounds_toArray, List.set_cons_zero, List.set_cons_succ]
        refine rest_skip 9 rfl (by kernel_rfl) (by kernel_rfl) (by kernel_rfl) (fun _ _ _ h => h) (by rfl) ?_
        try simp only [Act.put, List.setIfInBounds_toArray, List.set_cons_zero, List.set_cons_succ]
        refine rest_skip 7 rfl (by kernel_rfl) (by kernel_rfl) (by kernel_rfl) (fun _ _ _ h => h) (by rfl) ?_
        try simp only [Act.put, List.setIfInBounds_toArray, List.set_cons_zero, List.set_cons_succ]
        refine rest_skip 10 rfl (by kernel_rfl) (by kernel_rfl) (by kernel_rfl) (fun _ _ _ h => h) (by rfl) ?_
        try simp only [Act.put, List.setIfInBounds_toArray, List.set_cons_zero, List.set_cons_succ]
        refine rest_skip 11 rfl (by kernel_rfl) (by kernel_rfl) (by kernel_rfl) (fun _ _ _ h => h) (by rfl) ?_
        try simp only [Act.put, List.setIfInBounds_toArray, List.set_cons_zero, List.set_cons_succ]
        refine rest_take (v := ?_) 12 rfl (by kernel_rfl) (by kernel_rfl) (by kernel_rfl) (fun _ _ _ h => h) (by rfl) ?_ ?_
        rotate_left
        · intro w9; go_simp; try with_reducible rfl
        try simp only [Act.put, List.setIfInBounds_toArray, List.set_cons_zero, List.set_cons_succ]
        refine rest_done (by kernel_rfl) ?_
        go_wp2_with fail
        refine bodyPost_ret (v := .tuple #[.int .i64 0, .bool false]) (by simp [results, Try.results101, go_sem, *]) rfl ⟨by simp [oneOf, oneIs, isB, hE], (Below.refl _ _).drew⟩
      · skip
        go_enter Try.func101, Try.ntmps101
        go_wp2_with (first | (go_at_call 90; refine (c_impl_KindOf _ _ [5, x1] _ h).mono ?_; rintro e w' ⟨rfl, rfl⟩) | (go_at_call 102; refine (c_clos_trim _ _ x1 _ hr1).mono ?_; rintro e w' ⟨rfl, rfl⟩))
        refine rest_begin (by kernel_rfl) ?_
        refine rest_take (v := ?_) 0 rfl (by kernel_rfl) (by kernel_rfl) (by kernel_rfl) (fun _ _ _ h => h) (by rfl) ?_ ?_
        rotate_left
        · intro w9; go_simp; try with_reducible rfl
        try simp only [Act.put, List.setIfInBounds_toArray, List.set_cons_zero, List.set_cons_succ]
        refine rest_take (v := ?_) 1 rfl (by kernel_rfl) (by kernel_rfl) (by kernel_rfl) (fun _ _ _ h => h) (by rfl) ?_ ?_
        rotate_left
        · intro w9; go_simp; try with_reducible rfl
        try simp only [Act.put, List.setIfInBounds_toArray, List.set_cons_zero, List.set_cons_succ]
        refine rest_alone 2 rfl (by kernel_rfl) (by rfl) (fun K hK => ?_)
        go_wp2_with fail
        rw [run_method_direct (f := 218)]
        rotate_left
        · kernel_rfl
        go_wp2_with fail
        refine (c_trim_valid x1 _).mono ?_
        rintro e w1 ⟨rfl, rfl⟩
        go_wp2_with fail
        refine hK.out _ _ ?_
        try simp only [Act.put, List.setIfInBounds_toArray, List.set_cons_zero, List.set_cons_succ]
        clear hK K
        refine rest_take (v := ?_) 3 rfl (by kernel_rfl) (by kernel_rfl) (by kernel_rfl) (fun _ _ _ h => h) (by rfl) ?_ ?_
        rotate_left
        · intro w9; go_simp; try with_reducible rfl
        try simp only [Act.put, List.setIfInBounds_toArray, List.set_cons_zero, List.set_cons_succ]
        refine rest_take (v := ?_) 4 rfl (by kernel_rfl) (by kernel_rfl) (by kernel_rfl) (fun _ _ _ h => h) (by rfl) ?_ ?_
        rotate_left
        · intro w9; go_simp; try with_reducible rfl
        try simp only [Act.put, List.setIfInBounds_toArray, List.set_cons_zero, List.set_cons_succ]
        refine rest_take (v := ?_) 5 rfl (by kernel_rfl) (by kernel_rfl) (by kernel_rfl) (fun _ _ _ h => h) (by rfl) ?_ ?_
        rotate_left
        · intro w9; go_simp; try with_reducible rfl
        try simp only [Act.put, List.setIfInBounds_toArray, List.set_cons_zero, List.set_cons_succ]
        refine rest_take (v := ?_) 6 rfl (by kernel_rfl) (by kernel_rfl) (by kernel_rfl) (fun _ _ _ h => h) (by rfl) ?_ ?_
        rotate_left
        · intro w9; go_simp; try with_reducible rfl
        try simp only [Act.put, List.setIfInBounds_toArray, List.set_cons_zero, List.set_cons_succ]
        refine rest_take (v := ?_) 8 rfl (by kernel_rfl) (by kernel_rfl) (by kernel_rfl) (fun _ _ _ h => h) (by rfl) ?_ ?_
        rotate_left
        · intro w9; go_simp; try with_reducible rfl
        try simp only [Act.put, List.setIfInBounds_toArray, List.set_cons_zero, List.set_cons_succ]
        refine rest_take (v := ?_) 9 rfl (by kernel_rfl) (by kernel_rfl) (by kernel_rfl) (fun _ _ _ h => h) (by rfl) ?_ ?_
        rotate_left
        · intro w9; go_simp; try with_reducible rfl
        try simp only [Act.put, List.setIfInBounds_toArray, List.set_cons_zero, List.set_cons_succ]
        refine rest_alone 7 rfl (by kernel_rfl) (by rfl) (fun K hK => ?_)
        go_wp2_with fail
        rw [run_method_direct (f := 217)]
        rotate_left
        · kernel_rfl
        go_wp2_with fail
        refine (c_trim_fields x1 _ hr0).mono ?_
        rintro e w1 ⟨a2, c2, rfl, ho2, hb2⟩
        go_wp2_with fail
        refine hK.out _ _ ?_
        try simp only [Act.put, List.setIfInBounds_toArray, List.set_cons_zero, List.set_cons_succ]
        clear hK K
        refine rest_alone 10 rfl (by kernel_rfl) (by rfl) (fun K hK => ?_)
        go_wp2_with fail
        refine (c_SameRow _ _ _ _ [x1] [x1] _ ho2.read ((hr1.below (Below.refl _ _).drew).below hb2)).mono ?_
        rintro e w2 ⟨rfl, hb3⟩
        go_wp2_with fail
        refine hK.out _ _ ?_
        try simp only [Act.put, List.setIfInBounds_toArray, List.set_cons_zero, List.set_cons_succ]
        clear hK K
        refine rest_take (v := ?_) 11 rfl (by kernel_rfl) (by kernel_rfl) (by kernel_rfl) (fun _ _ _ h => h) (by rfl) ?_ ?_
        rotate_left
        · intro w9; go_simp; try with_reducible rfl
        try simp only [Act.put, List.setIfInBounds_toArray, List.set_cons_zero, List.set_cons_succ]
        refine rest_take (v := ?_) 12 rfl (by kernel_rfl) (by kernel_rfl) (by kernel_rfl) (fun _ _ _ h => h) (by rfl) ?_ ?_
        rotate_left
        · intro w9; go_simp; try with_reducible rfl
        try simp only [Act.put, List.setIfInBounds_toArray, List.set_cons_zero, List.set_cons_succ]
        refine rest_done (by kernel_rfl) ?_
        go_wp2_with fail
        refine bodyPost_ret (v := .tuple #[.int .i64 x1, .bool true]) (by simp [results, Try.results101, go_sem, *]) rfl ⟨by simp [oneOf, oneIs, isB, hE], bl_step hb3 hb2.size (bl_step hb2 (Nat.le_refl _) (Below.refl _ _).drew)⟩
    · rw [oneIs_len h2, oneOf_f (oneIs_len h2)]
      clear hd
      by_cases h1 : l.length = 1
      · obtain ⟨x0, rfl⟩ : ∃ x0, l = [x0] := by match l, h1 with | [a], _ => exact ⟨a, rfl⟩
        clear h2 h1 hl0 hl1
        simp only [List.length_cons, List.length_nil, Nat.zero_add]
        go_enter Try.func101, Try.ntmps101
        go_wp2_with (go_at_call 90; refine (c_impl_KindOf _ _ [x0] _ h).mono ?_; rintro e w' ⟨rfl, rfl⟩)
        refine bodyPost_ret (v := .tuple #[.int .i64 0, .bool false]) (by simp [results, Try.results101, go_sem, *]) rfl ⟨rfl, Below.refl _ _⟩
      · have e2 : decide ((l.length : Int) - 1 < 1) = false := by simp; omega
        have e3 : decide (1 < (l.length : Int) - 1) = true := by simp; omega
        go_enter Try.func101, Try.ntmps101
        go_wp2_with (go_at_call 90; refine (c_impl_KindOf _ _ l _ h).mono ?_; rintro e w' ⟨rfl, rfl⟩)
        refine bodyPost_ret (v := .tuple #[.int .i64 0, .bool false]) (by simp [results, Try.results101, go_sem, *]) rfl ⟨rfl, Below.refl _ _⟩
  · have e1 := oneIs_ne (l := l) (k := 5) (lo := 1) (hi := 2000) hk (by omega) (by omega) (by omega) (by omega)
    rw [e1, oneOf_f e1]
    go_enter Try.func101, Try.ntmps101
    go_wp2_with (go_at_call 90; refine (c_impl_KindOf _ _ l _ h).mono ?_; rintro e w' ⟨rfl, rfl⟩)
    refine bodyPost_ret (v := .tuple #[.int .i64 0, .bool false]) (by simp [results, Try.results101, go_sem, *]) rfl ⟨rfl, Below.refl _ _⟩
theorem c_impl_RowTrim (ao : Option Addr) (cap : Nat) (l : List Int) (w : World) (h : IntsR w ao l) (hcap : l.length ≤ cap) :
    Calls Try.prog 38 #[.slice ao l.length cap] w fun e w' => e = .returned (.tuple #[.int .i64 (oneOf l 5 1 2000), .bool (oneIs l 5 1 2000)]) ∧ Below w.heap.size w w' := by
  go_enter Try.func38, Try.ntmps38
  go_wp2_with fail
  refine (c_decoded_trim _ _ _ _ h hcap).mono ?_
  rintro e w1 ⟨rfl, hb⟩
  go_wp2_with fail
  refine bodyPost_ret (v := .tuple #[.int .i64 (oneOf l 5 1 2000), .bool (oneIs l 5 1 2000)]) (by simp [results, Try.results38, go_sem, *]) rfl ⟨rfl, hb⟩
theorem c_spec_RowTrim (ao : Option Addr) (cap : Nat) (l : List Int) (w : World) (h : IntsR w ao l) :
    Calls Try.prog 37 #[.slice ao l.length cap] w fun e w' => e = .returned (.tuple #[.int .i64 (oneOf l 5 1 2000), .bool (oneIs l 5 1 2000)]) ∧ w = w' := by
  go_enter Try.func37, Try.ntmps37
  go_wp2_with fail
  refine (c_spec_l11RowOne _ _ _ _ _ _ _ h).mono ?_
  rintro e w1 ⟨rfl, rfl⟩
  go_wp2_with fail
  refine bodyPost_ret (v := .tuple #[.int .i64 (oneOf l 5 1 2000), .bool (oneIs l 5 1 2000)]) (by simp [results, Try.results37, go_sem, *]) rfl ⟨rfl, rfl⟩
theorem c_law_RowTrim (ao : Option Addr) (cap : Nat) (l : List Int) (w : World) (h : IntsR w ao l) :
    Calls Try.prog 7 #[.slice ao l.length cap] w fun e w' => e = .returned (.bool true) ∧ Below w.heap.size w w' := by
  have hm := h.2.1
  by_cases hlen : 1048576 < l.length
  · go_enter Try.func7, Try.ntmps7
    go_wp2
    go_ret
    exact ⟨rfl, Below.refl _ _⟩
  · have hl2 : l.length ≤ 1048576 := by omega
    go_enter Try.func7, Try.ntmps7
    go_wp2_with fail
    refine (c_toInt64S _ _ _ _ h (by omega)).mono ?_
    rintro e w1 ⟨a1, c1, rfl, ho1, hb1⟩
    go_wp2_with fail
    refine (c_spec_RowTrim _ _ _ _ ho1.read).mono ?_
    rintro e w1 ⟨rfl, rfl⟩
    go_wp2_with fail
    refine (c_toInt64S _ _ _ _ (h.below hb1) (by omega)).mono ?_
    rintro e w2 ⟨a2, c2, rfl, ho2, hb2⟩
    go_wp2_with fail
    refine (c_impl_RowTrim _ _ _ _ ho2.read ho2.cap).mono ?_
    rintro e w3 ⟨rfl, hb3⟩
    go_wp2_with fail
    refine (c_toInt64S _ _ _ _ (((h.below hb1).below hb2).below hb3) (by omega)).mono ?_
    rintro e w4 ⟨a4, c4, rfl, ho4, hb4⟩
    go_wp2_with fail
    refine (c_eqInt64S _ _ _ _ _ _ _ ((ho2.read.below hb3).below hb4) ho4.read).mono ?_
    rintro e w5 ⟨rfl, hb5⟩
    have hs1 := hb1.size
    have hs2 := hb2.size
    have hs3 := hb3.size
    have hs4 := hb4.size
    go_wp2_with fail
    go_ret
    exact ⟨by simp, bl_step hb5 (by omega) (bl_step hb4 (by omega) (bl_step hb3 (by omega) (bl_step hb2 (by omega) hb1)))⟩

end Go.Proofs.Ytpfkfppooeikeaa
