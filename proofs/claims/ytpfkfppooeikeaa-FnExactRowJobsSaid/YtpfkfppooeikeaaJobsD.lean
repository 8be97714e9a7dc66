/- Walks of functions of the program, printed by a program of the prover. -/
import Derived.Test.YtpfkfppooeikeaaJobsV
import Derived.Test.YtpfkfppooeikeaaRowOne
import Derived.WalkKit
import Derived.WalkSpells
import Derived.Deep.QuietTactic
import Derived.BigQuiet
import Derived.Deep.Light
import Derived.Lib.Hide
import Derived.Deep.RegionHeld3
namespace Go.Proofs.Ytpfkfppooeikeaa
open Go.ChangeShapes Go.WideShapes Go.ChangeAt Go.RowKit Go.Deep
set_option maxHeartbeats 1600000
set_option maxRecDepth 100000

theorem dues_even : ∀ (n : Nat) (r : List Int), r.length = n → n % 2 = 0 → (duesOf r).flatMap dueNums = r
  | 0, [], _, _ => rfl
  | n + 2, a :: b :: r, h, h2 => by
    have h3 := dues_even n r (by simpa using h) (by omega)
    simp only [duesOf, List.flatMap_cons, dueNums, h3, List.cons_append, List.nil_append]
  | 1, _, _, h2 => by omega
  | 0, _ :: _, h, _ => by simp at h
  | n + 2, [], h, _ => by simp at h
  | n + 2, [_], h, _ => by simp at h
theorem len_dues : ∀ (n : Nat) (r : List Int), r.length = n → (duesOf r).length = n / 2
  | 0, [], _ => rfl
  | 1, [_], _ => rfl
  | n + 2, a :: b :: r, h => by
    have h3 := len_dues n r (by simpa using h)
    simp only [duesOf, List.length_cons, h3]; omega
  | 0, _ :: _, h => by simp at h
  | 1, [], h => by simp at h
  | 1, _ :: _ :: _, h => by simp at h
  | n + 2, [], h => by simp at h
  | n + 2, [_], h => by simp at h
theorem jobs_fields_eq {p0 p1 p2 p3 p4 : Int} {r : List Int} : (fieldsJobs p0 p1 p2 p3 p4 (duesOf r) == p0 :: p1 :: p2 :: p3 :: p4 :: r) = decide (r.length % 2 = 0) := by
  by_cases h : r.length % 2 = 0
  · have h1 := dues_even _ r rfl h
    simp [fieldsJobs, h1, h]
  · have h1 := len_dues _ r rfl
    have h2 : fieldsJobs p0 p1 p2 p3 p4 (duesOf r) ≠ p0 :: p1 :: p2 :: p3 :: p4 :: r := fun e => by
      have h3 := congrArg List.length e
      rw [fieldsJobs, List.length_append, length_flat len_dueNums, h1] at h3
      simp only [List.length_cons, List.length_nil] at h3
      omega
    rw [beq_eq_false_iff_ne.2 h2]
    simp [h]
theorem dues_ok : ∀ (n : Nat) (r : List Int), r.length = n → n % 2 = 0 → (∀ d ∈ duesOf r, inB d.1 1 20 = true ∧ inB d.2 0 1000000 = true) → ∀ x ∈ r, numOk x = true
  | 0, [], _, _, _ => by simp
  | n + 2, a :: b :: r, h, h2, h4 => by
    have h3 := dues_ok n r (by simpa using h) (by omega) (fun d hd => h4 d (by simp [duesOf, hd]))
    have h5 := h4 (a, b) (by simp [duesOf])
    simp only [inB, Bool.and_eq_true, decide_eq_true_eq] at h5
    intro x hx
    simp only [List.mem_cons] at hx
    rcases hx with rfl | rfl | hx
    · simp [numOk]; omega
    · simp [numOk]; omega
    · exact h3 x hx
  | 1, _, _, h2, _ => by omega
  | 0, _ :: _, h, _, _ => by simp at h
  | n + 2, [], h, _, _ => by simp at h
  | n + 2, [_], h, _, _ => by simp at h
theorem isJobs_kind {l : List Int} (h : isJobs l = true) : kindOf l = 9 := by
  by_cases h6 : l.length < 6
  · rw [isJobs_short h6] at h; simp at h
  · obtain ⟨x0, p0, p1, p2, p3, p4, r, rfl⟩ := six (l := l) (by omega)
    simp only [isJobs, Bool.and_eq_true, decide_eq_true_eq, beq_iff_eq, jobsOk] at h
    obtain ⟨h1, h2, rfl, h3, h4, h5, h7, h8, h9⟩ := h
    have hok : rowOk (9 :: p0 :: p1 :: p2 :: p3 :: p4 :: r) = true := by
      refine rowOk_good (by simp; omega) fun i hi => ?_
      have hall : ∀ x ∈ (9 :: p0 :: p1 :: p2 :: p3 :: p4 :: r), numOk x = true := by
        have hr := dues_ok _ r rfl h2 (fun d hd => by
          obtain ⟨i, hi, rfl⟩ := List.getElem_of_mem hd
          simp only [openOk, Bool.and_eq_true, List.all_eq_true, List.mem_range] at h9
          have h10 := h9.2 i hi
          rw [dueOk_eq hi] at h10
          simp only [dueOk1, Bool.and_eq_true] at h10
          exact ⟨h10.1.1.1, h10.1.1.2⟩)
        simp only [inB, Bool.and_eq_true, Bool.or_eq_true, decide_eq_true_eq, beq_iff_eq] at h3 h4 h5 h7 h8
        intro x hx
        simp only [List.mem_cons] at hx
        rcases hx with rfl | rfl | rfl | rfl | rfl | rfl | hx
        · rfl
        · simp [numOk]; omega
        · simp [numOk]; omega
        · simp [numOk]; omega
        · simp [numOk]; omega
        · simp [numOk]; omega
        · exact hr x hx
      exact hall _ (List.getElem_mem hi)
    unfold kindOf
    rw [hok]
    simp [inB]
theorem isJobs_ne {l : List Int} (h : (kindOf l != 9) = true) : isJobs l = false := by
  cases hj : isJobs l
  · rfl
  · rw [isJobs_kind hj] at h; simp at h
theorem c_decoded_Jobs_bad (ao : Option Addr) (cap : Nat) (l : List Int) (w : World) (hh : IntsR w ao l) (_hcap : l.length ≤ cap) (hk : (kindOf l != 9) = true) : Calls Try.prog 136 #[.slice ao l.length cap, .int .i64 9, .int .i64 5, .int .i64 21, .func (Fn.func 137) #[] #[]] w (RetRowJobs w l) := by
  have hm := hh.2.1
  have hj := isJobs_ne hk
  have Hj := Lib.hid hj
  have h' : ∀ W, Below w.heap.size w W → IntsR W ao l := fun W hb => hh.below hb
  clear hj
  go_enter Try.func136, Try.ntmps136
  go_wp2_with (go_at_call 90; refine (c_impl_KindOf _ _ l _ (h' _ (by (repeat (first | with_reducible exact Below.refl _ _ | ((with_reducible refine bl_alloc ?_ ?_); (focus (first | (simp; done) | (simp; omega) | omega))) | ((with_reducible refine bl_set ?_ ?_); (focus (first | (simp; done) | (simp; omega) | omega))) | ((with_reducible refine bl_later ?_ ?_); (focus (first | (simp; done) | (simp; omega) | omega))) | with_reducible refine bl_drew ?_ | with_reducible refine bl_drewN ?_ | ((with_reducible refine bl_step (by assumption) ?_ ?_); (focus (first | (simp; done) | (simp; omega) | omega)))))))).mono ?_; rintro e w' ⟨rfl, rfl⟩)
  have hj := Hj.out
  refine bodyPost_ret (v := .tuple #[.agg #[.int .i64 0, .int .i64 0, .int .i64 0, .int .i64 0, .int .i64 0, .slice none 0 0], .bool false]) (by simp [results, Try.results136, go_sem, *]) rfl (retRowJobs_no hj ?_)
  (repeat (first | with_reducible exact Below.refl _ _ | ((with_reducible refine bl_alloc ?_ ?_); (focus (first | (simp; done) | (simp; omega) | omega))) | ((with_reducible refine bl_set ?_ ?_); (focus (first | (simp; done) | (simp; omega) | omega))) | ((with_reducible refine bl_later ?_ ?_); (focus (first | (simp; done) | (simp; omega) | omega))) | with_reducible refine bl_drew ?_ | with_reducible refine bl_drewN ?_ | ((with_reducible refine bl_step (by assumption) ?_ ?_); (focus (first | (simp; done) | (simp; omega) | omega)))))
theorem c_decoded_Jobs_len (ao : Option Addr) (cap : Nat) (l : List Int) (w : World) (hh : IntsR w ao l) (_hcap : l.length ≤ cap) (hk : (kindOf l != 9) = false) (h2 : l.length < 6 ∨ 22 < l.length) : Calls Try.prog 136 #[.slice ao l.length cap, .int .i64 9, .int .i64 5, .int .i64 21, .func (Fn.func 137) #[] #[]] w (RetRowJobs w l) := by
  have hm := hh.2.1
  have Hj : Hid (isJobs l = false) := by
    rcases h2 with h2 | h2
    · exact isJobs_short h2
    · exact isJobs_long h2
  obtain ⟨hl0, hl1, hd⟩ := kindOf_pos hk (by omega)
  clear hd
  have h' : ∀ W, Below w.heap.size w W → IntsR W ao l := fun W hb => hh.below hb
  by_cases h1 : l.length < 6
  · have e2 : decide ((l.length : Int) - 1 < 5) = true := by simp; omega
    go_enter Try.func136, Try.ntmps136
    go_wp2_with (go_at_call 90; refine (c_impl_KindOf _ _ l _ (h' _ (by (repeat (first | with_reducible exact Below.refl _ _ | ((with_reducible refine bl_alloc ?_ ?_); (focus (first | (simp; done) | (simp; omega) | omega))) | ((with_reducible refine bl_set ?_ ?_); (focus (first | (simp; done) | (simp; omega) | omega))) | ((with_reducible refine bl_later ?_ ?_); (focus (first | (simp; done) | (simp; omega) | omega))) | with_reducible refine bl_drew ?_ | with_reducible refine bl_drewN ?_ | ((with_reducible refine bl_step (by assumption) ?_ ?_); (focus (first | (simp; done) | (simp; omega) | omega)))))))).mono ?_; rintro e w' ⟨rfl, rfl⟩)
    have hj := Hj.out
    refine bodyPost_ret (v := .tuple #[.agg #[.int .i64 0, .int .i64 0, .int .i64 0, .int .i64 0, .int .i64 0, .slice none 0 0], .bool false]) (by simp [results, Try.results136, go_sem, *]) rfl (retRowJobs_no hj ?_)
    (repeat (first | with_reducible exact Below.refl _ _ | ((with_reducible refine bl_alloc ?_ ?_); (focus (first | (simp; done) | (simp; omega) | omega))) | ((with_reducible refine bl_set ?_ ?_); (focus (first | (simp; done) | (simp; omega) | omega))) | ((with_reducible refine bl_later ?_ ?_); (focus (first | (simp; done) | (simp; omega) | omega))) | with_reducible refine bl_drew ?_ | with_reducible refine bl_drewN ?_ | ((with_reducible refine bl_step (by assumption) ?_ ?_); (focus (first | (simp; done) | (simp; omega) | omega)))))
  · have e2 : decide ((l.length : Int) - 1 < 5) = false := by simp; omega
    have e3 : decide ((21 : Int) < (l.length : Int) - 1) = true := by simp; omega
    go_enter Try.func136, Try.ntmps136
    go_wp2_with (go_at_call 90; refine (c_impl_KindOf _ _ l _ (h' _ (by (repeat (first | with_reducible exact Below.refl _ _ | ((with_reducible refine bl_alloc ?_ ?_); (focus (first | (simp; done) | (simp; omega) | omega))) | ((with_reducible refine bl_set ?_ ?_); (focus (first | (simp; done) | (simp; omega) | omega))) | ((with_reducible refine bl_later ?_ ?_); (focus (first | (simp; done) | (simp; omega) | omega))) | with_reducible refine bl_drew ?_ | with_reducible refine bl_drewN ?_ | ((with_reducible refine bl_step (by assumption) ?_ ?_); (focus (first | (simp; done) | (simp; omega) | omega)))))))).mono ?_; rintro e w' ⟨rfl, rfl⟩)
    have hj := Hj.out
    refine bodyPost_ret (v := .tuple #[.agg #[.int .i64 0, .int .i64 0, .int .i64 0, .int .i64 0, .int .i64 0, .slice none 0 0], .bool false]) (by simp [results, Try.results136, go_sem, *]) rfl (retRowJobs_no hj ?_)
    (repeat (first | with_reducible exact Below.refl _ _ | ((with_reducible refine bl_alloc ?_ ?_); (focus (first | (simp; done) | (simp; omega) | omega))) | ((with_reducible refine bl_set ?_ ?_); (focus (first | (simp; done) | (simp; omega) | omega))) | ((with_reducible refine bl_later ?_ ?_); (focus (first | (simp; done) | (simp; omega) | omega))) | with_reducible refine bl_drew ?_ | with_reducible refine bl_drewN ?_ | ((with_reducible refine bl_step (by assumption) ?_ ?_); (focus (first | (simp; done) | (simp; omega) | omega)))))
theorem c_decoded_Jobs_good (ao : Option Addr) (cap : Nat) (l : List Int) (p0 p1 p2 p3 p4 : Int) (r : List Int) (w : World) (hh : IntsR w ao l) (hcap : l.length ≤ cap) (Hl : Hid (l = 9 :: p0 :: p1 :: p2 :: p3 :: p4 :: r)) (hk : (kindOf l != 9) = false) (h6 : 6 ≤ l.length) (h22 : l.length ≤ 22) : Calls Try.prog 136 #[.slice ao l.length cap, .int .i64 9, .int .i64 5, .int .i64 21, .func (Fn.func 137) #[] #[]] w (RetRowJobs w l) := by
  have hm := hh.2.1
  obtain ⟨i0, hi, hz0, hz1, hz2⟩ := info_parts info_int64
  have hlen : Hid (l.length = 6 + r.length) := by show l.length = _; rw [Hl.out]; simp; omega
  have hlr : r.length ≤ 16 := by have := hlen.out; omega
  have h' : ∀ W, Below w.heap.size w W → IntsR W ao l := fun W hb => hh.below hb
  have hsd : (duesOf r).length ≤ 1000 := by rw [len_dues _ r rfl]; omega
  obtain ⟨ao3, hsl, hR3⟩ := slice_low (P := Try.prog) (t := 22) Try.underlying22 hi hz1 cap 1 hh (by omega) hcap
  have e9 : l.drop 1 = p0 :: p1 :: p2 :: p3 :: p4 :: r := by rw [Hl.out]; rfl
  rw [e9] at hR3
  have hsl2 : ∀ W, (Instr.slice 22 (.slice ao l.length cap) (some (.int .i64 1)) none none).run Try.prog W = .ok (.slice ao3 (l.length - 1) (cap - 1)) W := hsl
  have hln : l.length - 1 = (p0 :: p1 :: p2 :: p3 :: p4 :: r).length := by have h7 := hlen.out; simp only [List.length_cons]; omega
  have e2 : decide ((l.length : Int) - 1 < 5) = false := by simp; omega
  have e3 : decide ((21 : Int) < (l.length : Int) - 1) = false := by simp; omega
  have HR3 := Lib.hid hR3
  clear hR3 hsl e9
  rw [hln] at hsl2
  clear hln
  cases hE : jobsOk p0 p1 p2 p3 p4 (duesOf r)
  · have hj : isJobs l = false := by rw [Hl.out]; simp [isJobs, hE]
    have Hj := Lib.hid hj
    clear hj
    go_enter Try.func136, Try.ntmps136
    go_wp2_with (go_at_call 90; refine (c_impl_KindOf _ _ l _ (h' _ (by (repeat (first | with_reducible exact Below.refl _ _ | ((with_reducible refine bl_alloc ?_ ?_); (focus (first | (simp; done) | (simp; omega) | omega))) | ((with_reducible refine bl_set ?_ ?_); (focus (first | (simp; done) | (simp; omega) | omega))) | ((with_reducible refine bl_later ?_ ?_); (focus (first | (simp; done) | (simp; omega) | omega))) | with_reducible refine bl_drew ?_ | with_reducible refine bl_drewN ?_ | ((with_reducible refine bl_step (by assumption) ?_ ?_); (focus (first | (simp; done) | (simp; omega) | omega)))))))).mono ?_; rintro e w' ⟨rfl, rfl⟩)
    go_wp2_with fail
    have hbW : Below w.heap.size w ((w.alloc (.cells ([.int .i64 0, .int .i64 0, .int .i64 0, .int .i64 0, .int .i64 0, .slice none 0 0] : List Value).toArray 99)).alloc (.cells ([.int .i64 0, .int .i64 0, .int .i64 0, .int .i64 0, .int .i64 0, .slice none 0 0] : List Value).toArray 99)) := by (repeat (first | with_reducible exact Below.refl _ _ | ((with_reducible refine bl_alloc ?_ ?_); (focus (first | (simp; done) | (simp; omega) | omega))) | ((with_reducible refine bl_set ?_ ?_); (focus (first | (simp; done) | (simp; omega) | omega))) | ((with_reducible refine bl_later ?_ ?_); (focus (first | (simp; done) | (simp; omega) | omega))) | with_reducible refine bl_drew ?_ | with_reducible refine bl_drewN ?_ | ((with_reducible refine bl_step (by assumption) ?_ ?_); (focus (first | (simp; done) | (simp; omega) | omega)))))
    have Bz := (Bx.new w [.int .i64 0, .int .i64 0, .int .i64 0, .int .i64 0, .int .i64 0, .slice none 0 0] 99).alloc (.cells ([.int .i64 0, .int .i64 0, .int .i64 0, .int .i64 0, .int .i64 0, .slice none 0 0] : List Value).toArray 99)
    have By := Bx.new (w.alloc (.cells ([.int .i64 0, .int .i64 0, .int .i64 0, .int .i64 0, .int .i64 0, .slice none 0 0] : List Value).toArray 99)) [.int .i64 0, .int .i64 0, .int .i64 0, .int .i64 0, .int .i64 0, .slice none 0 0] 99
    rw [World.size_alloc] at By
    have Fz := (Fx.new w [.int .i64 0, .int .i64 0, .int .i64 0, .int .i64 0, .int .i64 0, .slice none 0 0] 99).alloc (.cells ([.int .i64 0, .int .i64 0, .int .i64 0, .int .i64 0, .int .i64 0, .slice none 0 0] : List Value).toArray 99)
    have hR := HR3.out
    refine (c_clos_Jobs _ _ _ p0 p1 p2 p3 p4 r _ (hR.below hbW) (by have h7 := hlen.out; omega) (by have h7 := hlen.out; omega) (by have h7 := hlen.out; omega)).mono ?_
    rintro e w3 ⟨a3, c3, rfl, hOw, hb3⟩
    simp only [World.size_alloc] at hOw
    replace Bz := (Bz.below hb3).alloc (.cells ([.int .i64 p0, .int .i64 p1, .int .i64 p2, .int .i64 p3, .int .i64 p4, .slice a3 (duesOf r).length c3] : List Value).toArray 99) |>.drew
    replace By := (By.below hb3).alloc (.cells ([.int .i64 p0, .int .i64 p1, .int .i64 p2, .int .i64 p3, .int .i64 p4, .slice a3 (duesOf r).length c3] : List Value).toArray 99) |>.drew
    replace Fz := (Fz.below hb3).alloc (.cells ([.int .i64 p0, .int .i64 p1, .int .i64 p2, .int .i64 p3, .int .i64 p4, .slice a3 (duesOf r).length c3] : List Value).toArray 99) |>.drew
    have hb4 : Below w.heap.size w w3 := bl_step hb3 hbW.size hbW
    replace hOw := (hOw.below ((Below.refl _ _).alloc (Nat.le_refl _) (.cells ([.int .i64 p0, .int .i64 p1, .int .i64 p2, .int .i64 p3, .int .i64 p4, .slice a3 (duesOf r).length c3] : List Value).toArray 99))).below (Below.refl _ _).drew
    have Bt := Bx.new w3 [.int .i64 p0, .int .i64 p1, .int .i64 p2, .int .i64 p3, .int .i64 p4, .slice a3 (duesOf r).length c3] 99
    have hz3 := hb3.size
    simp only [World.size_alloc] at hz3
    clear hb3
    go_wp2_with fail
    refine restS_begin (SB w w3.heap.size [.int .i64 p0, .int .i64 p1, .int .i64 p2, .int .i64 p3, .int .i64 p4, .slice a3 (duesOf r).length c3]) (by kernel_rfl) (SB.start (hb4.alloc hb4.size _) Bt) ?_
    refine restS_take (v := ?_) 0 rfl (by kernel_rfl) (by kernel_rfl) (by kernel_rfl) (fun _ _ _ h => h) (by rfl) ?_ ?_
    rotate_left
    · intro w9 h9; obtain ⟨h8, h9⟩ := h9; obtain ⟨x9, rfl⟩ := later_of h8; replace h9 := h9.2; clear h8
      go_simp; try with_reducible rfl
    try simp only [Act.put, List.setIfInBounds_toArray, List.set_cons_zero, List.set_cons_succ]
    refine restS_take (v := ?_) 1 rfl (by kernel_rfl) (by kernel_rfl) (by kernel_rfl) (fun _ _ _ h => h) (by rfl) ?_ ?_
    rotate_left
    · intro w9 h9; try dsimp only at h9
      go_split_ands
      go_simp; try with_reducible rfl
    try simp only [Act.put, List.setIfInBounds_toArray, List.set_cons_zero, List.set_cons_succ]
    refine restS_alone 2 rfl (by kernel_rfl) (by rfl) (fun hS K hK => ?_)
    go_wp2_with fail
    rw [run_method_direct (f := 211)]
    rotate_left
    · kernel_rfl
    go_wp2_with fail
    refine (c_Jobs_valid _ _ _ _ _ _ _ _ _ hOw.read).mono ?_
    rintro e w5 ⟨rfl, hb5⟩
    go_wp2_with fail
    have hS2 := SB.step hS hb5
    replace Bz := Bz.below hb5
    replace By := By.below hb5
    replace Fz := Fz.below hb5
    replace hOw := hOw.below hb5
    clear hb5
    refine hK.out _ _ hS2 ?_
    try simp only [Act.put, List.setIfInBounds_toArray, List.set_cons_zero, List.set_cons_succ]
    clear hK K hS hS2
    refine restS_take (v := ?_) 3 rfl (by kernel_rfl) (by kernel_rfl) (by kernel_rfl) (fun _ _ _ h => h) (by rfl) ?_ ?_
    rotate_left
    · intro w9 h9; try dsimp only at h9
      go_split_ands
      go_simp; try with_reducible rfl
    try simp only [Act.put, List.setIfInBounds_toArray, List.set_cons_zero, List.set_cons_succ]
    refine restS_take (v := ?_) 4 rfl (by kernel_rfl) (by kernel_rfl) (by kernel_rfl) (fun _ _ _ h => h) (by rfl) ?_ ?_
    rotate_left
    · intro w9 h9; try dsimp only at h9
      go_split_ands
      go_simp; try with_reducible rfl
    try simp only [Act.put, List.setIfInBounds_toArray, List.set_cons_zero, List.set_cons_succ]
    refine restS_skip 5 rfl (by kernel_rfl) (by kernel_rfl) (by kernel_rfl) (fun _ _ _ h => h) (by rfl) ?_
    try simp only [Act.put, List.setIfInBounds_toArray, List.set_cons_zero, List.set_cons_succ]
    refine restS_skip 6 rfl (by kernel_rfl) (by kernel_rfl) (by kernel_rfl) (fun _ _ _ h => h) (by rfl) ?_
    try simp only [Act.put, List.setIfInBounds_toArray, List.set_cons_zero, List.set_cons_succ]
    refine restS_skip 7 rfl (by kernel_rfl) (by kernel_rfl) (by kernel_rfl) (fun _ _ _ h => h) (by rfl) ?_
    try simp only [Act.put, List.setIfInBounds_toArray, List.set_cons_zero, List.set_cons_succ]
    refine restS_skip 8 rfl (by kernel_rfl) (by kernel_rfl) (by kernel_rfl) (fun _ _ _ h => h) (by rfl) ?_
    try simp only [Act.put, List.setIfInBounds_toArray, List.set_cons_zero, List.set_cons_succ]
    refine restS_skip 9 rfl (by kernel_rfl) (by kernel_rfl) (by kernel_rfl) (fun _ _ _ h => h) (by rfl) ?_
    try simp only [Act.put, List.setIfInBounds_toArray, List.set_cons_zero, List.set_cons_succ]
    refine restS_skip 10 rfl (by kernel_rfl) (by kernel_rfl) (by kernel_rfl) (fun _ _ _ h => h) (by rfl) ?_
    try simp only [Act.put, List.setIfInBounds_toArray, List.set_cons_zero, List.set_cons_succ]
    refine restS_skip 11 rfl (by kernel_rfl) (by kernel_rfl) (by kernel_rfl) (fun _ _ _ h => h) (by rfl) ?_
    try simp only [Act.put, List.setIfInBounds_toArray, List.set_cons_zero, List.set_cons_succ]
    refine restS_take (v := ?_) 12 rfl (by kernel_rfl) (by kernel_rfl) (by kernel_rfl) (fun _ _ _ h => h) (by rfl) ?_ ?_
    rotate_left
    · intro w9 h9; try dsimp only at h9
      go_split_ands
      go_simp; try with_reducible rfl
    try simp only [Act.put, List.setIfInBounds_toArray, List.set_cons_zero, List.set_cons_succ]
    refine restS_done (by kernel_rfl) (fun hS => ?_)
    have hj := Hj.out
    have q0 := Bz.2
    have q1 := By.2
    have q2 := hS.2.2
    have q3 := Fz.2
    have hbB := hS.1
    clear hS
    go_wp2_with fail
    refine bodyPost_ret (v := .tuple #[.agg #[.int .i64 0, .int .i64 0, .int .i64 0, .int .i64 0, .int .i64 0, .slice none 0 0], .bool false]) (by simp [results, Try.results136, go_sem, *]) rfl (retRowJobs_no hj ?_)
    (repeat (first | with_reducible exact Below.refl _ _ | ((with_reducible refine bl_alloc ?_ ?_); (focus (first | (simp; done) | (simp; omega) | omega))) | ((with_reducible refine bl_set ?_ ?_); (focus (first | (simp; done) | (simp; omega) | omega))) | ((with_reducible refine bl_later ?_ ?_); (focus (first | (simp; done) | (simp; omega) | omega))) | with_reducible refine bl_drew ?_ | with_reducible refine bl_drewN ?_ | ((with_reducible refine bl_step (by assumption) ?_ ?_); (focus (first | (simp; done) | (simp; omega) | omega)))))
  · cases hev : decide (r.length % 2 = 0)
    · have Hj : Hid (isJobs l = false) := by show isJobs l = _; rw [Hl.out]; simp only [isJobs, hev]; simp
      go_enter Try.func136, Try.ntmps136
      go_wp2_with (go_at_call 90; refine (c_impl_KindOf _ _ l _ (h' _ (by (repeat (first | with_reducible exact Below.refl _ _ | ((with_reducible refine bl_alloc ?_ ?_); (focus (first | (simp; done) | (simp; omega) | omega))) | ((with_reducible refine bl_set ?_ ?_); (focus (first | (simp; done) | (simp; omega) | omega))) | ((with_reducible refine bl_later ?_ ?_); (focus (first | (simp; done) | (simp; omega) | omega))) | with_reducible refine bl_drew ?_ | with_reducible refine bl_drewN ?_ | ((with_reducible refine bl_step (by assumption) ?_ ?_); (focus (first | (simp; done) | (simp; omega) | omega)))))))).mono ?_; rintro e w' ⟨rfl, rfl⟩)
      go_wp2_with fail
      have hbW : Below w.heap.size w ((w.alloc (.cells ([.int .i64 0, .int .i64 0, .int .i64 0, .int .i64 0, .int .i64 0, .slice none 0 0] : List Value).toArray 99)).alloc (.cells ([.int .i64 0, .int .i64 0, .int .i64 0, .int .i64 0, .int .i64 0, .slice none 0 0] : List Value).toArray 99)) := by (repeat (first | with_reducible exact Below.refl _ _ | ((with_reducible refine bl_alloc ?_ ?_); (focus (first | (simp; done) | (simp; omega) | omega))) | ((with_reducible refine bl_set ?_ ?_); (focus (first | (simp; done) | (simp; omega) | omega))) | ((with_reducible refine bl_later ?_ ?_); (focus (first | (simp; done) | (simp; omega) | omega))) | with_reducible refine bl_drew ?_ | with_reducible refine bl_drewN ?_ | ((with_reducible refine bl_step (by assumption) ?_ ?_); (focus (first | (simp; done) | (simp; omega) | omega)))))
      have Bz := (Bx.new w [.int .i64 0, .int .i64 0, .int .i64 0, .int .i64 0, .int .i64 0, .slice none 0 0] 99).alloc (.cells ([.int .i64 0, .int .i64 0, .int .i64 0, .int .i64 0, .int .i64 0, .slice none 0 0] : List Value).toArray 99)
      have By := Bx.new (w.alloc (.cells ([.int .i64 0, .int .i64 0, .int .i64 0, .int .i64 0, .int .i64 0, .slice none 0 0] : List Value).toArray 99)) [.int .i64 0, .int .i64 0, .int .i64 0, .int .i64 0, .int .i64 0, .slice none 0 0] 99
      rw [World.size_alloc] at By
      have Fz := (Fx.new w [.int .i64 0, .int .i64 0, .int .i64 0, .int .i64 0, .int .i64 0, .slice none 0 0] 99).alloc (.cells ([.int .i64 0, .int .i64 0, .int .i64 0, .int .i64 0, .int .i64 0, .slice none 0 0] : List Value).toArray 99)
      have hR := HR3.out
      refine (c_clos_Jobs _ _ _ p0 p1 p2 p3 p4 r _ (hR.below hbW) (by have h7 := hlen.out; omega) (by have h7 := hlen.out; omega) (by have h7 := hlen.out; omega)).mono ?_
      rintro e w3 ⟨a3, c3, rfl, hOw, hb3⟩
      simp only [World.size_alloc] at hOw
      replace Bz := (Bz.below hb3).alloc (.cells ([.int .i64 p0, .int .i64 p1, .int .i64 p2, .int .i64 p3, .int .i64 p4, .slice a3 (duesOf r).length c3] : List Value).toArray 99) |>.drew
      replace By := (By.below hb3).alloc (.cells ([.int .i64 p0, .int .i64 p1, .int .i64 p2, .int .i64 p3, .int .i64 p4, .slice a3 (duesOf r).length c3] : List Value).toArray 99) |>.drew
      replace Fz := (Fz.below hb3).alloc (.cells ([.int .i64 p0, .int .i64 p1, .int .i64 p2, .int .i64 p3, .int .i64 p4, .slice a3 (duesOf r).length c3] : List Value).toArray 99) |>.drew
      have hb4 : Below w.heap.size w w3 := bl_step hb3 hbW.size hbW
      replace hOw := (hOw.below ((Below.refl _ _).alloc (Nat.le_refl _) (.cells ([.int .i64 p0, .int .i64 p1, .int .i64 p2, .int .i64 p3, .int .i64 p4, .slice a3 (duesOf r).length c3] : List Value).toArray 99))).below (Below.refl _ _).drew
      have Bt := Bx.new w3 [.int .i64 p0, .int .i64 p1, .int .i64 p2, .int .i64 p3, .int .i64 p4, .slice a3 (duesOf r).length c3] 99
      have hz3 := hb3.size
      simp only [World.size_alloc] at hz3
      clear hb3
      go_wp2_with fail
      refine restS_begin (SB w w3.heap.size [.int .i64 p0, .int .i64 p1, .int .i64 p2, .int .i64 p3, .int .i64 p4, .slice a3 (duesOf r).length c3]) (by kernel_rfl) (SB.start (hb4.alloc hb4.size _) Bt) ?_
      refine restS_take (v := ?_) 0 rfl (by kernel_rfl) (by kernel_rfl) (by kernel_rfl) (fun _ _ _ h => h) (by rfl) ?_ ?_
      rotate_left
      · intro w9 h9; obtain ⟨h8, h9⟩ := h9; obtain ⟨x9, rfl⟩ := later_of h8; replace h9 := h9.2; clear h8
        go_simp; try with_reducible rfl
      try simp only [Act.put, List.setIfInBounds_toArray, List.set_cons_zero, List.set_cons_succ]
      refine restS_take (v := ?_) 1 rfl (by kernel_rfl) (by kernel_rfl) (by kernel_rfl) (fun _ _ _ h => h) (by rfl) ?_ ?_
      rotate_left
      · intro w9 h9; try dsimp only at h9
        go_split_ands
        go_simp; try with_reducible rfl
      try simp only [Act.put, List.setIfInBounds_toArray, List.set_cons_zero, List.set_cons_succ]
      refine restS_alone 2 rfl (by kernel_rfl) (by rfl) (fun hS K hK => ?_)
      go_wp2_with fail
      rw [run_method_direct (f := 211)]
      rotate_left
      · kernel_rfl
      go_wp2_with fail
      refine (c_Jobs_valid _ _ _ _ _ _ _ _ _ hOw.read).mono ?_
      rintro e w5 ⟨rfl, hb5⟩
      go_wp2_with fail
      have hS2 := SB.step hS hb5
      replace Bz := Bz.below hb5
      replace By := By.below hb5
      replace Fz := Fz.below hb5
      replace hOw := hOw.below hb5
      clear hb5
      refine hK.out _ _ hS2 ?_
      try simp only [Act.put, List.setIfInBounds_toArray, List.set_cons_zero, List.set_cons_succ]
      clear hK K hS hS2
      refine restS_take (v := ?_) 3 rfl (by kernel_rfl) (by kernel_rfl) (by kernel_rfl) (fun _ _ _ h => h) (by rfl) ?_ ?_
      rotate_left
      · intro w9 h9; try dsimp only at h9
        go_split_ands
        go_simp; try with_reducible rfl
      try simp only [Act.put, List.setIfInBounds_toArray, List.set_cons_zero, List.set_cons_succ]
      refine restS_take (v := ?_) 4 rfl (by kernel_rfl) (by kernel_rfl) (by kernel_rfl) (fun _ _ _ h => h) (by rfl) ?_ ?_
      rotate_left
      · intro w9 h9; try dsimp only at h9
        go_split_ands
        go_simp; try with_reducible rfl
      try simp only [Act.put, List.setIfInBounds_toArray, List.set_cons_zero, List.set_cons_succ]
      refine restS_take (v := ?_) 5 rfl (by kernel_rfl) (by kernel_rfl) (by kernel_rfl) (fun _ _ _ h => h) (by rfl) ?_ ?_
      rotate_left
      · intro w9 h9; obtain ⟨h8, h9⟩ := h9; obtain ⟨x9, rfl⟩ := later_of h8; replace h9 := h9.2; clear h8
        go_simp; try with_reducible rfl
      try simp only [Act.put, List.setIfInBounds_toArray, List.set_cons_zero, List.set_cons_succ]
      refine restS_take (v := ?_) 6 rfl (by kernel_rfl) (by kernel_rfl) (by kernel_rfl) (fun _ _ _ h => h) (by rfl) ?_ ?_
      rotate_left
      · intro w9 h9; try dsimp only at h9
        go_split_ands
        go_simp; try with_reducible rfl
      try simp only [Act.put, List.setIfInBounds_toArray, List.set_cons_zero, List.set_cons_succ]
      refine restS_take (v := ?_) 8 rfl (by kernel_rfl) (by kernel_rfl) (by kernel_rfl) (fun _ _ _ h => h) (by rfl) ?_ ?_
      rotate_left
      · intro w9 h9; try dsimp only at h9
        go_split_ands
        go_simp; try with_reducible rfl
      try simp only [Act.put, List.setIfInBounds_toArray, List.set_cons_zero, List.set_cons_succ]
      refine restS_take (v := ?_) 9 rfl (by kernel_rfl) (by kernel_rfl) (by kernel_rfl) (fun _ _ _ h => h) (by rfl) ?_ ?_
      rotate_left
      · intro w9 h9; try dsimp only at h9
        go_split_ands
        go_simp; try with_reducible rfl
      try simp only [Act.put, List.setIfInBounds_toArray, List.set_cons_zero, List.set_cons_succ]
      refine restS_alone 7 rfl (by kernel_rfl) (by rfl) (fun hS K hK => ?_)
      go_wp2_with fail
      rw [run_method_direct (f := 210)]
      rotate_left
      · kernel_rfl
      go_wp2_with fail
      refine (c_Jobs_fields _ _ _ _ _ _ _ _ _ (hR.1 _ (by simp)) (hR.1 _ (by simp)) (hR.1 _ (by simp)) (hR.1 _ (by simp)) (hR.1 _ (by simp)) hOw.read hsd).mono ?_
      rintro e w6 ⟨a6, c6, rfl, ho6, hb6⟩
      go_wp2_with fail
      have hS2 := SB.step hS hb6
      replace Bz := Bz.below hb6
      replace By := By.below hb6
      replace Fz := Fz.below hb6
      replace hOw := hOw.below hb6
      clear hb6
      refine hK.out _ _ hS2 ?_
      try simp only [Act.put, List.setIfInBounds_toArray, List.set_cons_zero, List.set_cons_succ]
      clear hK K hS hS2
      refine restS_alone 10 rfl (by kernel_rfl) (by rfl) (fun hS K hK => ?_)
      go_wp2_with fail
      refine (c_SameRow _ _ _ _ (fieldsJobs p0 p1 p2 p3 p4 (duesOf r)) (p0 :: p1 :: p2 :: p3 :: p4 :: r) _ ho6.read (hR.below hS.1)).mono ?_
      rintro e w7 ⟨rfl, hb7⟩
      rw [jobs_fields_eq]
      go_wp2_with fail
      have hS2 := SB.step hS hb7
      replace Bz := Bz.below hb7
      replace By := By.below hb7
      replace Fz := Fz.below hb7
      replace hOw := hOw.below hb7
      clear hb7
      refine hK.out _ _ hS2 ?_
      try simp only [Act.put, List.setIfInBounds_toArray, List.set_cons_zero, List.set_cons_succ]
      clear hK K hS hS2
      refine restS_take (v := ?_) 11 rfl (by kernel_rfl) (by kernel_rfl) (by kernel_rfl) (fun _ _ _ h => h) (by rfl) ?_ ?_
      rotate_left
      · intro w9 h9; try dsimp only at h9
        go_split_ands
        go_simp; try with_reducible rfl
      try simp only [Act.put, List.setIfInBounds_toArray, List.set_cons_zero, List.set_cons_succ]
      refine restS_take (v := ?_) 12 rfl (by kernel_rfl) (by kernel_rfl) (by kernel_rfl) (fun _ _ _ h => h) (by rfl) ?_ ?_
      rotate_left
      · intro w9 h9; try dsimp only at h9
        go_split_ands
        go_simp; try with_reducible rfl
      try simp only [Act.put, List.setIfInBounds_toArray, List.set_cons_zero, List.set_cons_succ]
      refine restS_done (by kernel_rfl) (fun hS => ?_)
      have hj := Hj.out
      have q0 := Bz.2
      have q1 := By.2
      have q2 := hS.2.2
      have q3 := Fz.2
      have hbB := hS.1
      clear hS
      go_wp2_with fail
      refine bodyPost_ret (v := .tuple #[.agg #[.int .i64 0, .int .i64 0, .int .i64 0, .int .i64 0, .int .i64 0, .slice none 0 0], .bool false]) (by simp [results, Try.results136, go_sem, *]) rfl (retRowJobs_no hj ?_)
      (repeat (first | with_reducible exact Below.refl _ _ | ((with_reducible refine bl_alloc ?_ ?_); (focus (first | (simp; done) | (simp; omega) | omega))) | ((with_reducible refine bl_set ?_ ?_); (focus (first | (simp; done) | (simp; omega) | omega))) | ((with_reducible refine bl_later ?_ ?_); (focus (first | (simp; done) | (simp; omega) | omega))) | with_reducible refine bl_drew ?_ | with_reducible refine bl_drewN ?_ | ((with_reducible refine bl_step (by assumption) ?_ ?_); (focus (first | (simp; done) | (simp; omega) | omega)))))
    · have Hj : Hid (isJobs (9 :: p0 :: p1 :: p2 :: p3 :: p4 :: r) = true) := by show isJobs _ = _; simp only [isJobs, hev, hE]; simp [hlr]
      go_enter Try.func136, Try.ntmps136
      go_wp2_with (go_at_call 90; refine (c_impl_KindOf _ _ l _ (h' _ (by (repeat (first | with_reducible exact Below.refl _ _ | ((with_reducible refine bl_alloc ?_ ?_); (focus (first | (simp; done) | (simp; omega) | omega))) | ((with_reducible refine bl_set ?_ ?_); (focus (first | (simp; done) | (simp; omega) | omega))) | ((with_reducible refine bl_later ?_ ?_); (focus (first | (simp; done) | (simp; omega) | omega))) | with_reducible refine bl_drew ?_ | with_reducible refine bl_drewN ?_ | ((with_reducible refine bl_step (by assumption) ?_ ?_); (focus (first | (simp; done) | (simp; omega) | omega)))))))).mono ?_; rintro e w' ⟨rfl, rfl⟩)
      go_wp2_with fail
      have hbW : Below w.heap.size w ((w.alloc (.cells ([.int .i64 0, .int .i64 0, .int .i64 0, .int .i64 0, .int .i64 0, .slice none 0 0] : List Value).toArray 99)).alloc (.cells ([.int .i64 0, .int .i64 0, .int .i64 0, .int .i64 0, .int .i64 0, .slice none 0 0] : List Value).toArray 99)) := by (repeat (first | with_reducible exact Below.refl _ _ | ((with_reducible refine bl_alloc ?_ ?_); (focus (first | (simp; done) | (simp; omega) | omega))) | ((with_reducible refine bl_set ?_ ?_); (focus (first | (simp; done) | (simp; omega) | omega))) | ((with_reducible refine bl_later ?_ ?_); (focus (first | (simp; done) | (simp; omega) | omega))) | with_reducible refine bl_drew ?_ | with_reducible refine bl_drewN ?_ | ((with_reducible refine bl_step (by assumption) ?_ ?_); (focus (first | (simp; done) | (simp; omega) | omega)))))
      have Bz := (Bx.new w [.int .i64 0, .int .i64 0, .int .i64 0, .int .i64 0, .int .i64 0, .slice none 0 0] 99).alloc (.cells ([.int .i64 0, .int .i64 0, .int .i64 0, .int .i64 0, .int .i64 0, .slice none 0 0] : List Value).toArray 99)
      have By := Bx.new (w.alloc (.cells ([.int .i64 0, .int .i64 0, .int .i64 0, .int .i64 0, .int .i64 0, .slice none 0 0] : List Value).toArray 99)) [.int .i64 0, .int .i64 0, .int .i64 0, .int .i64 0, .int .i64 0, .slice none 0 0] 99
      rw [World.size_alloc] at By
      have Fz := (Fx.new w [.int .i64 0, .int .i64 0, .int .i64 0, .int .i64 0, .int .i64 0, .slice none 0 0] 99).alloc (.cells ([.int .i64 0, .int .i64 0, .int .i64 0, .int .i64 0, .int .i64 0, .slice none 0 0] : List Value).toArray 99)
      have hR := HR3.out
      refine (c_clos_Jobs _ _ _ p0 p1 p2 p3 p4 r _ (hR.below hbW) (by have h7 := hlen.out; omega) (by have h7 := hlen.out; omega) (by have h7 := hlen.out; omega)).mono ?_
      rintro e w3 ⟨a3, c3, rfl, hOw, hb3⟩
      simp only [World.size_alloc] at hOw
      replace Bz := (Bz.below hb3).alloc (.cells ([.int .i64 p0, .int .i64 p1, .int .i64 p2, .int .i64 p3, .int .i64 p4, .slice a3 (duesOf r).length c3] : List Value).toArray 99) |>.drew
      replace By := (By.below hb3).alloc (.cells ([.int .i64 p0, .int .i64 p1, .int .i64 p2, .int .i64 p3, .int .i64 p4, .slice a3 (duesOf r).length c3] : List Value).toArray 99) |>.drew
      replace Fz := (Fz.below hb3).alloc (.cells ([.int .i64 p0, .int .i64 p1, .int .i64 p2, .int .i64 p3, .int .i64 p4, .slice a3 (duesOf r).length c3] : List Value).toArray 99) |>.drew
      have hb4 : Below w.heap.size w w3 := bl_step hb3 hbW.size hbW
      replace hOw := (hOw.below ((Below.refl _ _).alloc (Nat.le_refl _) (.cells ([.int .i64 p0, .int .i64 p1, .int .i64 p2, .int .i64 p3, .int .i64 p4, .slice a3 (duesOf r).length c3] : List Value).toArray 99))).below (Below.refl _ _).drew
      have Bt := Bx.new w3 [.int .i64 p0, .int .i64 p1, .int .i64 p2, .int .i64 p3, .int .i64 p4, .slice a3 (duesOf r).length c3] 99
      have hz3 := hb3.size
      simp only [World.size_alloc] at hz3
      clear hb3
      go_wp2_with fail
      refine restS_begin (SB w w3.heap.size [.int .i64 p0, .int .i64 p1, .int .i64 p2, .int .i64 p3, .int .i64 p4, .slice a3 (duesOf r).length c3]) (by kernel_rfl) (SB.start (hb4.alloc hb4.size _) Bt) ?_
      refine restS_take (v := ?_) 0 rfl (by kernel_rfl) (by kernel_rfl) (by kernel_rfl) (fun _ _ _ h => h) (by rfl) ?_ ?_
      rotate_left
      · intro w9 h9; obtain ⟨h8, h9⟩ := h9; obtain ⟨x9, rfl⟩ := later_of h8; replace h9 := h9.2; clear h8
        go_simp; try with_reducible rfl
      try simp only [Act.put, List.setIfInBounds_toArray, List.set_cons_zero, List.set_cons_succ]
      refine restS_take (v := ?_) 1 rfl (by kernel_rfl) (by kernel_rfl) (by kernel_rfl) (fun _ _ _ h => h) (by rfl) ?_ ?_
      rotate_left
      · intro w9 h9; try dsimp only at h9
        go_split_ands
        go_simp; try with_reducible rfl
      try simp only [Act.put, List.setIfInBounds_toArray, List.set_cons_zero, List.set_cons_succ]
      refine restS_alone 2 rfl (by kernel_rfl) (by rfl) (fun hS K hK => ?_)
      go_wp2_with fail
      rw [run_method_direct (f := 211)]
      rotate_left
      · kernel_rfl
      go_wp2_with fail
      refine (c_Jobs_valid _ _ _ _ _ _ _ _ _ hOw.read).mono ?_
      rintro e w5 ⟨rfl, hb5⟩
      go_wp2_with fail
      have hS2 := SB.step hS hb5
      replace Bz := Bz.below hb5
      replace By := By.below hb5
      replace Fz := Fz.below hb5
      replace hOw := hOw.below hb5
      clear hb5
      refine hK.out _ _ hS2 ?_
      try simp only [Act.put, List.setIfInBounds_toArray, List.set_cons_zero, List.set_cons_succ]
      clear hK K hS hS2
      refine restS_take (v := ?_) 3 rfl (by kernel_rfl) (by kernel_rfl) (by kernel_rfl) (fun _ _ _ h => h) (by rfl) ?_ ?_
      rotate_left
      · intro w9 h9; try dsimp only at h9
        go_split_ands
        go_simp; try with_reducible rfl
      try simp only [Act.put, List.setIfInBounds_toArray, List.set_cons_zero, List.set_cons_succ]
      refine restS_take (v := ?_) 4 rfl (by kernel_rfl) (by kernel_rfl) (by kernel_rfl) (fun _ _ _ h => h) (by rfl) ?_ ?_
      rotate_left
      · intro w9 h9; try dsimp only at h9
        go_split_ands
        go_simp; try with_reducible rfl
      try simp only [Act.put, List.setIfInBounds_toArray, List.set_cons_zero, List.set_cons_succ]
      refine restS_take (v := ?_) 5 rfl (by kernel_rfl) (by kernel_rfl) (by kernel_rfl) (fun _ _ _ h => h) (by rfl) ?_ ?_
      rotate_left
      · intro w9 h9; obtain ⟨h8, h9⟩ := h9; obtain ⟨x9, rfl⟩ := later_of h8; replace h9 := h9.2; clear h8
        go_simp; try with_reducible rfl
      try simp only [Act.put, List.setIfInBounds_toArray, List.set_cons_zero, List.set_cons_succ]
      refine restS_take (v := ?_) 6 rfl (by kernel_rfl) (by kernel_rfl) (by kernel_rfl) (fun _ _ _ h => h) (by rfl) ?_ ?_
      rotate_left
      · intro w9 h9; try dsimp only at h9
        go_split_ands
        go_simp; try with_reducible rfl
      try simp only [Act.put, List.setIfInBounds_toArray, List.set_cons_zero, List.set_cons_succ]
      refine restS_take (v := ?_) 8 rfl (by kernel_rfl) (by kernel_rfl) (by kernel_rfl) (fun _ _ _ h => h) (by rfl) ?_ ?_
      rotate_left
      · intro w9 h9; try dsimp only at h9
        go_split_ands
        go_simp; try with_reducible rfl
      try simp only [Act.put, List.setIfInBounds_toArray, List.set_cons_zero, List.set_cons_succ]
      refine restS_take (v := ?_) 9 rfl (by kernel_rfl) (by kernel_rfl) (by kernel_rfl) (fun _ _ _ h => h) (by rfl) ?_ ?_
      rotate_left
      · intro w9 h9; try dsimp only at h9
        go_split_ands
        go_simp; try with_reducible rfl
      try simp only [Act.put, List.setIfInBounds_toArray, List.set_cons_zero, List.set_cons_succ]
      refine restS_alone 7 rfl (by kernel_rfl) (by rfl) (fun hS K hK => ?_)
      go_wp2_with fail
      rw [run_method_direct (f := 210)]
      rotate_left
      · kernel_rfl
      go_wp2_with fail
      refine (c_Jobs_fields _ _ _ _ _ _ _ _ _ (hR.1 _ (by simp)) (hR.1 _ (by simp)) (hR.1 _ (by simp)) (hR.1 _ (by simp)) (hR.1 _ (by simp)) hOw.read hsd).mono ?_
      rintro e w6 ⟨a6, c6, rfl, ho6, hb6⟩
      go_wp2_with fail
      have hS2 := SB.step hS hb6
      replace Bz := Bz.below hb6
      replace By := By.below hb6
      replace Fz := Fz.below hb6
      replace hOw := hOw.below hb6
      clear hb6
      refine hK.out _ _ hS2 ?_
      try simp only [Act.put, List.setIfInBounds_toArray, List.set_cons_zero, List.set_cons_succ]
      clear hK K hS hS2
      refine restS_alone 10 rfl (by kernel_rfl) (by rfl) (fun hS K hK => ?_)
      go_wp2_with fail
      refine (c_SameRow _ _ _ _ (fieldsJobs p0 p1 p2 p3 p4 (duesOf r)) (p0 :: p1 :: p2 :: p3 :: p4 :: r) _ ho6.read (hR.below hS.1)).mono ?_
      rintro e w7 ⟨rfl, hb7⟩
      rw [jobs_fields_eq]
      go_wp2_with fail
      have hS2 := SB.step hS hb7
      replace Bz := Bz.below hb7
      replace By := By.below hb7
      replace Fz := Fz.below hb7
      replace hOw := hOw.below hb7
      clear hb7
      refine hK.out _ _ hS2 ?_
      try simp only [Act.put, List.setIfInBounds_toArray, List.set_cons_zero, List.set_cons_succ]
      clear hK K hS hS2
      refine restS_take (v := ?_) 11 rfl (by kernel_rfl) (by kernel_rfl) (by kernel_rfl) (fun _ _ _ h => h) (by rfl) ?_ ?_
      rotate_left
      · intro w9 h9; try dsimp only at h9
        go_split_ands
        go_simp; try with_reducible rfl
      try simp only [Act.put, List.setIfInBounds_toArray, List.set_cons_zero, List.set_cons_succ]
      refine restS_take (v := ?_) 12 rfl (by kernel_rfl) (by kernel_rfl) (by kernel_rfl) (fun _ _ _ h => h) (by rfl) ?_ ?_
      rotate_left
      · intro w9 h9; try dsimp only at h9
        go_split_ands
        go_simp; try with_reducible rfl
      try simp only [Act.put, List.setIfInBounds_toArray, List.set_cons_zero, List.set_cons_succ]
      refine restS_done (by kernel_rfl) (fun hS => ?_)
      have hj := Hj.out
      have q0 := Bz.2
      have q1 := By.2
      have q2 := hS.2.2
      have q3 := Fz.2
      have hbB := hS.1
      clear hS
      go_wp2_with fail
      refine bodyPost_ret (v := .tuple #[.agg #[.int .i64 p0, .int .i64 p1, .int .i64 p2, .int .i64 p3, .int .i64 p4, .slice a3 (duesOf r).length c3], .bool true]) (by simp [results, Try.results136, go_sem, *]) rfl ?_
      rw [Hl.out]
      refine retRowJobs_yes hj ?_ (by (repeat (first | with_reducible exact Below.refl _ _ | ((with_reducible refine bl_alloc ?_ ?_); (focus (first | (simp; done) | (simp; omega) | omega))) | ((with_reducible refine bl_set ?_ ?_); (focus (first | (simp; done) | (simp; omega) | omega))) | ((with_reducible refine bl_later ?_ ?_); (focus (first | (simp; done) | (simp; omega) | omega))) | with_reducible refine bl_drew ?_ | with_reducible refine bl_drewN ?_ | ((with_reducible refine bl_step (by assumption) ?_ ?_); (focus (first | (simp; done) | (simp; omega) | omega))))))
      refine OwnA.weak (lo := w.heap.size + 1 + 1) (by omega) ?_
      repeat (first | ((with_reducible refine OwnA.set ?_ ?_); (focus (first | (simp; done) | (simp; omega) | omega))))
      exact hOw
theorem c_decoded_Jobs (ao : Option Addr) (cap : Nat) (l : List Int) (w : World) (hh : IntsR w ao l) (hcap : l.length ≤ cap) : Calls Try.prog 136 #[.slice ao l.length cap, .int .i64 9, .int .i64 5, .int .i64 21, .func (Fn.func 137) #[] #[]] w (RetRowJobs w l) := by
  cases hk : (kindOf l != 9)
  · by_cases h2 : l.length < 6 ∨ 22 < l.length
    · exact c_decoded_Jobs_len ao cap l w hh hcap hk h2
    · obtain ⟨x0, p0, p1, p2, p3, p4, r, e⟩ := six (l := l) (by omega)
      obtain ⟨hl0, hl1, hd⟩ := kindOf_pos hk (by omega)
      rw [e] at hd
      obtain rfl : x0 = 9 := by simpa using hd
      exact c_decoded_Jobs_good ao cap l p0 p1 p2 p3 p4 r w hh hcap e hk (by omega) (by omega)
  · exact c_decoded_Jobs_bad ao cap l w hh hcap hk
theorem c_spec_RowJobs (ao : Option Addr) (cap : Nat) (l : List Int) (w : World) (hh : IntsR w ao l) (hcap : l.length ≤ cap) : Calls Try.prog 81 #[.slice ao l.length cap] w (RetRowJobs w l) := by
  by_cases hbad : l.length < 6 ∨ 22 < l.length ∨ l.length % 2 ≠ 0 ∨ l.headD 0 ≠ 9
  · have hj : isJobs l = false := by
      rcases hbad with h | h | h | h
      · exact isJobs_short h
      · exact isJobs_long h
      · exact isJobs_odd h
      · cases hj : isJobs l
        · rfl
        · exfalso
          by_cases h6 : l.length < 6
          · rw [isJobs_short h6] at hj; simp at hj
          · obtain ⟨x0, p0, p1, p2, p3, p4, r, rfl⟩ := six (l := l) (by omega)
            simp only [isJobs, Bool.and_eq_true, beq_iff_eq] at hj
            exact h (by simp [hj.2.2.1])
    exact (c_spec_RowJobs_bad ao cap l w hh hbad).mono fun e w' ⟨he, hb⟩ => by rw [he]; exact retRowJobs_no hj hb
  · obtain ⟨x0, p0, p1, p2, p3, p4, r, e⟩ := six (l := l) (by omega)
    have h9 : x0 = 9 := by
      have h7 : l.headD 0 = 9 := by omega
      rw [e] at h7; simpa using h7
    rw [h9] at e
    exact c_spec_RowJobs_shape ao cap l p0 p1 p2 p3 p4 r w hh e (by omega) (by omega) (by show _ = _; omega)
theorem c_impl_RowJobs (ao : Option Addr) (cap : Nat) (l : List Int) (w : World) (hh : IntsR w ao l) (hcap : l.length ≤ cap) : Calls Try.prog 82 #[.slice ao l.length cap] w (RetRowJobs w l) := by
  have key := c_decoded_Jobs ao cap l (w.alloc (.cells ([.int .i64 0, .int .i64 0, .int .i64 0, .int .i64 0, .int .i64 0, .slice none 0 0] : List Value).toArray 99)) (hh.below (by (repeat (first | with_reducible exact Below.refl _ _ | ((with_reducible refine bl_alloc ?_ ?_); (focus (first | (simp; done) | (simp; omega) | omega))) | ((with_reducible refine bl_set ?_ ?_); (focus (first | (simp; done) | (simp; omega) | omega))) | ((with_reducible refine bl_later ?_ ?_); (focus (first | (simp; done) | (simp; omega) | omega))) | with_reducible refine bl_drew ?_ | with_reducible refine bl_drewN ?_ | ((with_reducible refine bl_step (by assumption) ?_ ?_); (focus (first | (simp; done) | (simp; omega) | omega))))))) hcap
  go_enter Try.func82, Try.ntmps82
  go_wp2_with fail
  refine key.mono ?_
  rintro e w1 ⟨a1, c1, rfl, ho1, hb⟩
  have q0 := ((Bx.new w [.int .i64 0, .int .i64 0, .int .i64 0, .int .i64 0, .int .i64 0, .slice none 0 0] 99).below hb).2
  have q1 := ((Fx.new w [.int .i64 0, .int .i64 0, .int .i64 0, .int .i64 0, .int .i64 0, .slice none 0 0] 99).below hb).2
  have hz := hb.size
  simp only [World.size_alloc] at hz ho1
  clear key
  go_wp2_with fail
  refine bodyPost_ret (v := .tuple #[.agg #[.int .i64 (jobsHead l).1, .int .i64 (jobsHead l).2.1, .int .i64 (jobsHead l).2.2.1, .int .i64 (jobsHead l).2.2.2.1, .int .i64 (jobsHead l).2.2.2.2, .slice a1 (jobsOpen l).length c1], .bool (isJobs l)]) (by simp [results, Try.results82, go_sem, *]) rfl ⟨a1, c1, rfl, ?_, by (repeat (first | with_reducible exact Below.refl _ _ | ((with_reducible refine bl_alloc ?_ ?_); (focus (first | (simp; done) | (simp; omega) | omega))) | ((with_reducible refine bl_set ?_ ?_); (focus (first | (simp; done) | (simp; omega) | omega))) | ((with_reducible refine bl_later ?_ ?_); (focus (first | (simp; done) | (simp; omega) | omega))) | with_reducible refine bl_drew ?_ | with_reducible refine bl_drewN ?_ | ((with_reducible refine bl_step (by assumption) ?_ ?_); (focus (first | (simp; done) | (simp; omega) | omega)))))⟩
  refine OwnA.weak (lo := w.heap.size + 1) (by omega) ?_
  repeat (first | ((with_reducible refine OwnA.set ?_ ?_); (focus (first | (simp; done) | (simp; omega) | omega))))
  exact ho1

end Go.Proofs.Ytpfkfppooeikeaa
