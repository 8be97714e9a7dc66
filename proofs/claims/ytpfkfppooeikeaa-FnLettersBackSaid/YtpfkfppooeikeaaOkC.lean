/- Texts of the proof, merged: part 3. -/
import Derived.Test.YtpfkfppooeikeaaOkB
import Derived.Test.YtpfkfppooeikeaaRowOne
import Derived.WalkKit
import Derived.WalkSpells
import Derived.Deep.QuietTactic
import Derived.BigQuiet
import Derived.Deep.Light
import Derived.Lib.Hide
import Derived.Deep.RegionHeld3
import Derived.Test.YtpfkfppooeikeaaOne
import Derived.Test.YtpfkfppooeikeaaBx
import Derived.Test.YtpfkfppooeikeaaDec
import Derived.Test.YtpfkfppooeikeaaTakeS
/- Walks of functions of the program, printed by a program of the prover. -/
namespace Go.Proofs.Ytpfkfppooeikeaa
open Go.ChangeShapes Go.WideShapes Go.ChangeAt Go.RowKit Go.Deep
set_option maxHeartbeats 1600000
set_option maxRecDepth 100000

theorem dues_even : ∀ (n : Nat) (r : List Int), r.length = n → n % 2 = 0 → (duesOf r).flatMap dueNums = r
  | 0, [], _, _ => rfl
  | n + 2, a :: b :: r, h, h2 => by
    have h3 := dues_even n r (by simpa using h) (by omega)
    simp only [duesOf, List.flatMap_cons, dueNums, h3, List.cons_append, List.nil_append]
  | 1, _, _, h2 => by omega
  | 0, _ :: _, h, _ => by simp at h
  | n + 2, [], h, _ => by simp at h
  | n + 2, [_], h, _ => by simp at h
theorem len_dues : ∀ (n : Nat) (r : List Int), r.length = n → (duesOf r).length = n / 2
  | 0, [], _ => rfl
  | 1, [_], _ => rfl
  | n + 2, a :: b :: r, h => by
    have h3 := len_dues n r (by simpa using h)
    simp only [duesOf, List.length_cons, h3]; omega
  | 0, _ :: _, h => by simp at h
  | 1, [], h => by simp at h
  | 1, _ :: _ :: _, h => by simp at h
  | n + 2, [], h => by simp at h
  | n + 2, [_], h => by simp at h
theorem jobs_fields_eq {p0 p1 p2 p3 p4 : Int} {r : List Int} : (fieldsJobs p0 p1 p2 p3 p4 (duesOf r) == p0 :: p1 :: p2 :: p3 :: p4 :: r) = decide (r.length % 2 = 0) := by
  by_cases h : r.length % 2 = 0
  · have h1 := dues_even _ r rfl h
    simp [fieldsJobs, h1, h]
  · have h1 := len_dues _ r rfl
    have h2 : fieldsJobs p0 p1 p2 p3 p4 (duesOf r) ≠ p0 :: p1 :: p2 :: p3 :: p4 :: r := fun e => by
      have h3 := congrArg List.length e
      rw [fieldsJobs, List.length_append, length_flat len_dueNums, h1] at h3
      simp only [List.length_cons, List.length_nil] at h3
      omega
    rw [beq_eq_false_iff_ne.2 h2]
    simp [h]
theorem dues_ok : ∀ (n : Nat) (r : List Int), r.length = n → n % 2 = 0 → (∀ d ∈ duesOf r, inB d.1 1 20 = true ∧ inB d.2 0 1000000 = true) → ∀ x ∈ r, numOk x = true
  | 0, [], _, _, _ => by simp
  | n + 2, a :: b :: r, h, h2, h4 => by
    have h3 := dues_ok n r (by simpa using h) (by omega) (fun d hd => h4 d (by simp [duesOf, hd]))
    have h5 := h4 (a, b) (by simp [duesOf])
    simp only [inB, Bool.and_eq_true, decide_eq_true_eq] at h5
    intro x hx
    simp only [List.mem_cons] at hx
    rcases hx with rfl | rfl | hx
    · simp [numOk]; omega
    · simp [numOk]; omega
    · exact h3 x hx
  | 1, _, _, h2, _ => by omega
  | 0, _ :: _, h, _, _ => by simp at h
  | n + 2, [], h, _, _ => by simp at h
  | n + 2, [_], h, _, _ => by simp at h
theorem isJobs_kind {l : List Int} (h : isJobs l = true) : kindOf l = 9 := by
  by_cases h6 : l.length < 6
  · rw [isJobs_short h6] at h; simp at h
  · obtain ⟨x0, p0, p1, p2, p3, p4, r, rfl⟩ := six (l := l) (by omega)
    simp only [isJobs, Bool.and_eq_true, decide_eq_true_eq, beq_iff_eq, jobsOk] at h
    obtain ⟨h1, h2, rfl, h3, h4, h5, h7, h8, h9⟩ := h
    have hok : rowOk (9 :: p0 :: p1 :: p2 :: p3 :: p4 :: r) = true := by
      refine rowOk_good (by simp; omega) fun i hi => ?_
      have hall : ∀ x ∈ (9 :: p0 :: p1 :: p2 :: p3 :: p4 :: r), numOk x = true := by
        have hr := dues_ok _ r rfl h2 (fun d hd => by
          obtain ⟨i, hi, rfl⟩ := List.getElem_of_mem hd
          simp only [openOk, Bool.and_eq_true, List.all_eq_true, List.mem_range] at h9
          have h10 := h9.2 i hi
          rw [dueOk_eq hi] at h10
          simp only [dueOk1, Bool.and_eq_true] at h10
          exact ⟨h10.1.1.1, h10.1.1.2⟩)
        simp only [inB, Bool.and_eq_true, Bool.or_eq_true, decide_eq_true_eq, beq_iff_eq] at h3 h4 h5 h7 h8
        intro x hx
        simp only [List.mem_cons] at hx
        rcases hx with rfl | rfl | rfl | rfl | rfl | rfl | hx
        · rfl
        · simp [numOk]; omega
        · simp [numOk]; omega
        · simp [numOk]; omega
        · simp [numOk]; omega
        · simp [numOk]; omega
        · exact hr x hx
      exact hall _ (List.getElem_mem hi)
    unfold kindOf
    rw [hok]
    simp [inB]
theorem isJobs_ne {l : List Int} (h : (kindOf l != 9) = true) : isJobs l = false := by
  cases hj : isJobs l
  · rfl
  · rw [isJobs_kind hj] at h; simp at h
theorem c_decoded_Jobs_bad (ao : Option Addr) (cap : Nat) (l : List Int) (w : World) (hh : IntsR w ao l) (_hcap : l.length ≤ cap) (hk : (kindOf l != 9) = true) : Calls Try.prog 136 #[.slice ao l.length cap, .int .i64 9, .int .i64 5, .int .i64 21, .func (Fn.func 137) #[] #[]] w (RetRowJobs w l) := by
  have hm := hh.2.1
  have hj := isJobs_ne hk
  have Hj := Lib.hid hj
  have h' : ∀ W, Below w.heap.size w W → IntsR W ao l := fun W hb => hh.below hb
  clear hj
  go_enter Try.func136, Try.ntmps136
  go_wp2_with (go_at_call 90; refine (c_impl_KindOf _ _ l _ (h' _ (by (repeat (first | with_reducible exact Below.refl _ _ | ((with_reducible refine bl_alloc ?_ ?_); (focus (first | (simp; done) | (simp; omega) | omega))) | ((with_reducible refine bl_set ?_ ?_); (focus (first | (simp; done) | (simp; omega) | omega))) | ((with_reducible refine bl_later ?_ ?_); (focus (first | (simp; done) | (simp; omega) | omega))) | with_reducible refine bl_drew ?_ | with_reducible refine bl_drewN ?_ | ((with_reducible refine bl_step (by assumption) ?_ ?_); (focus (first | (simp; done) | (simp; omega) | omega)))))))).mono ?_; rintro e w' ⟨rfl, rfl⟩)
  have hj := Hj.out
  refine bodyPost_ret (v := .tuple #[.agg #[.int .i64 0, .int .i64 0, .int .i64 0, .int .i64 0, .int .i64 0, .slice none 0 0], .bool false]) (by simp [results, Try.results136, go_sem, *]) rfl (retRowJobs_no hj ?_)
  (repeat (first | with_reducible exact Below.refl _ _ | ((with_reducible refine bl_alloc ?_ ?_); (focus (first | (simp; done) | (simp; omega) | omega))) | ((with_reducible refine bl_set ?_ ?_); (focus (first | (simp; done) | (simp; omega) | omega))) | ((with_reducible refine bl_later ?_ ?_); (focus (first | (simp; done) | (simp; omega) | omega))) | with_reducible refine bl_drew ?_ | with_reducible refine bl_drewN ?_ | ((with_reducible refine bl_step (by assumption) ?_ ?_); (focus (first | (simp; done) | (simp; omega) | omega)))))
theorem c_decoded_Jobs_len (ao : Option Addr) (cap : Nat) (l : List Int) (w : World) (hh : IntsR w ao l) (_hcap : l.length ≤ cap) (hk : (kindOf l != 9) = false) (h2 : l.length < 6 ∨ 22 < l.length) : Calls Try.prog 136 #[.slice ao l.length cap, .int .i64 9, .int .i64 5, .int .i64 21, .func (Fn.func 137) #[] #[]] w (RetRowJobs w l) := by
  have hm := hh.2.1
  have Hj : Hid (isJobs l = false) := by
    rcases h2 with h2 | h2
    · exact isJobs_short h2
    · exact isJobs_long h2
  obtain ⟨hl0, hl1, hd⟩ := kindOf_pos hk (by omega)
  clear hd
  have h' : ∀ W, Below w.heap.size w W → IntsR W ao l := fun W hb => hh.below hb
  by_cases h1 : l.length < 6
  · have e2 : decide ((l.length : Int) - 1 < 5) = true := by simp; omega
    go_enter Try.func136, Try.ntmps136
    go_wp2_with (go_at_call 90; refine (c_impl_KindOf _ _ l _ (h' _ (by (repeat (first | with_reducible exact Below.refl _ _ | ((with_reducible refine bl_alloc ?_ ?_); (focus (first | (simp; done) | (simp; omega) | omega))) | ((with_reducible refine bl_set ?_ ?_); (focus (first | (simp; done) | (simp; omega) | omega))) | ((with_reducible refine bl_later ?_ ?_); (focus (first | (simp; done) | (simp; omega) | omega))) | with_reducible refine bl_drew ?_ | with_reducible refine bl_drewN ?_ | ((with_reducible refine bl_step (by assumption) ?_ ?_); (focus (first | (simp; done) | (simp; omega) | omega)))))))).mono ?_; rintro e w' ⟨rfl, rfl⟩)
    have hj := Hj.out
    refine bodyPost_ret (v := .tuple #[.agg #[.int .i64 0, .int .i64 0, .int .i64 0, .int .i64 0, .int .i64 0, .slice none 0 0], .bool false]) (by simp [results, Try.results136, go_sem, *]) rfl (retRowJobs_no hj ?_)
    (repeat (first | with_reducible exact Below.refl _ _ | ((with_reducible refine bl_alloc ?_ ?_); (focus (first | (simp; done) | (simp; omega) | omega))) | ((with_reducible refine bl_set ?_ ?_); (focus (first | (simp; done) | (simp; omega) | omega))) | ((with_reducible refine bl_later ?_ ?_); (focus (first | (simp; done) | (simp; omega) | omega))) | with_reducible refine bl_drew ?_ | with_reducible refine bl_drewN ?_ | ((with_reducible refine bl_step (by assumption) ?_ ?_); (focus (first | (simp; done) | (simp; omega) | omega)))))
  · have e2 : decide ((l.length : Int) - 1 < 5) = false := by simp; omega
    have e3 : decide ((21 : Int) < (l.length : Int) - 1) = true := by simp; omega
    go_enter Try.func136, Try.ntmps136
    go_wp2_with (go_at_call 90; refine (c_impl_KindOf _ _ l _ (h' _ (by (repeat (first | with_reducible exact Below.refl _ _ | ((with_reducible refine bl_alloc ?_ ?_); (focus (first | (simp; done) | (simp; omega) | omega))) | ((with_reducible refine bl_set ?_ ?_); (focus (first | (simp; done) | (simp; omega) | omega))) | ((with_reducible refine bl_later ?_ ?_); (focus (first | (simp; done) | (simp; omega) | omega))) | with_reducible refine bl_drew ?_ | with_reducible refine bl_drewN ?_ | ((with_reducible refine bl_step (by assumption) ?_ ?_); (focus (first | (simp; done) | (simp; omega) | omega)))))))).mono ?_; rintro e w' ⟨rfl, rfl⟩)
    have hj := Hj.out
    refine bodyPost_ret (v := .tuple #[.agg #[.int .i64 0, .int .i64 0, .int .i64 0, .int .i64 0, .int .i64 0, .slice none 0 0], .bool false]) (by simp [results, Try.results136, go_sem, *]) rfl (retRowJobs_no hj ?_)
    (repeat (first | with_reducible exact Below.refl _ _ | ((with_reducible refine bl_alloc ?_ ?_); (focus (first | (simp; done) | (simp; omega) | omega))) | ((with_reducible refine bl_set ?_ ?_); (focus (first | (simp; done) | (simp; omega) | omega))) | ((with_reducible refine bl_later ?_ ?_); (focus (first | (simp; done) | (simp; omega) | omega))) | with_reducible refine bl_drew ?_ | with_reducible refine bl_drewN ?_ | ((with_reducible refine bl_step (by assumption) ?_ ?_); (focus (first | (simp; done) | (simp; omega) | omega)))))
theorem c_decoded_Jobs_good (ao : Option Addr) (cap : Nat) (l : List Int) (p0 p1 p2 p3 p4 : Int) (r : List Int) (w : World) (hh : IntsR w ao l) (hcap : l.length ≤ cap) (Hl : Hid (l = 9 :: p0 :: p1 :: p2 :: p3 :: p4 :: r)) (hk : (kindOf l != 9) = false) (h6 : 6 ≤ l.length) (h22 : l.length ≤ 22) : Calls Try.prog 136 #[.slice ao l.length cap, .int .i64 9, .int .i64 5, .int .i64 21, .func (Fn.func 137) #[] #[]] w (RetRowJobs w l) := by
  have hm := hh.2.1
  obtain ⟨i0, hi, hz0, hz1, hz2⟩ := info_parts info_int64
  have hlen : Hid (l.length = 6 + r.length) := by show l.length = _; rw [Hl.out]; simp; omega
  have hlr : r.length ≤ 16 := by have := hlen.out; omega
  have h' : ∀ W, Below w.heap.size w W → IntsR W ao l := fun W hb => hh.below hb
  have hsd : (duesOf r).length ≤ 1000 := by rw [len_dues _ r rfl]; omega
  obtain ⟨ao3, hsl, hR3⟩ := slice_low (P := Try.prog) (t := 22) Try.underlying22 hi hz1 cap 1 hh (by omega) hcap
  have e9 : l.drop 1 = p0 :: p1 :: p2 :: p3 :: p4 :: r := by rw [Hl.out]; rfl
  rw [e9] at hR3
  have hsl2 : ∀ W, (Instr.slice 22 (.slice ao l.length cap) (some (.int .i64 1)) none none).run Try.prog W = .ok (.slice ao3 (l.length - 1) (cap - 1)) W := hsl
  have hln : l.length - 1 = (p0 :: p1 :: p2 :: p3 :: p4 :: r).length := by have h7 := hlen.out; simp only [List.length_cons]; omega
  have e2 : decide ((l.length : Int) - 1 < 5) = false := by simp; omega
  have e3 : decide ((21 : Int) < (l.length : Int) - 1) = false := by simp; omega
  have HR3 := Lib.hid hR3
  clear hR3 hsl e9
  rw [hln] at hsl2
  clear hln
  cases hE : jobsOk p0 p1 p2 p3 p4 (duesOf r)
  · have hj : isJobs l = false := by rw [Hl.out]; simp [isJobs, hE]
    have Hj := Lib.hid hj
    clear hj
    go_enter Try.func136, Try.ntmps136
    go_wp2_with (go_at_call 90; refine (c_impl_KindOf _ _ l _ (h' _ (by (repeat (first | with_reducible exact Below.refl _ _ | ((with_reducible refine bl_alloc ?_ ?_); (focus (first | (simp; done) | (simp; omega) | omega))) | ((with_reducible refine bl_set ?_ ?_); (focus (first | (simp; done) | (simp; omega) | omega))) | ((with_reducible refine bl_later ?_ ?_); (focus (first | (simp; done) | (simp; omega) | omega))) | with_reducible refine bl_drew ?_ | with_reducible refine bl_drewN ?_ | ((with_reducible refine bl_step (by assumption) ?_ ?_); (focus (first | (simp; done) | (simp; omega) | omega)))))))).mono ?_; rintro e w' ⟨rfl, rfl⟩)
    go_wp2_with fail
    have hbW : Below w.heap.size w ((w.alloc (.cells ([.int .i64 0, .int .i64 0, .int .i64 0, .int .i64 0, .int .i64 0, .slice none 0 0] : List Value).toArray 99)).alloc (.cells ([.int .i64 0, .int .i64 0, .int .i64 0, .int .i64 0, .int .i64 0, .slice none 0 0] : List Value).toArray 99)) := by (repeat (first | with_reducible exact Below.refl _ _ | ((with_reducible refine bl_alloc ?_ ?_); (focus (first | (simp; done) | (simp; omega) | omega))) | ((with_reducible refine bl_set ?_ ?_); (focus (first | (simp; done) | (simp; omega) | omega))) | ((with_reducible refine bl_later ?_ ?_); (focus (first | (simp; done) | (simp; omega) | omega))) | with_reducible refine bl_drew ?_ | with_reducible refine bl_drewN ?_ | ((with_reducible refine bl_step (by assumption) ?_ ?_); (focus (first | (simp; done) | (simp; omega) | omega)))))
    have Bz := (Bx.new w [.int .i64 0, .int .i64 0, .int .i64 0, .int .i64 0, .int .i64 0, .slice none 0 0] 99).alloc (.cells ([.int .i64 0, .int .i64 0, .int .i64 0, .int .i64 0, .int .i64 0, .slice none 0 0] : List Value).toArray 99)
    have By := Bx.new (w.alloc (.cells ([.int .i64 0, .int .i64 0, .int .i64 0, .int .i64 0, .int .i64 0, .slice none 0 0] : List Value).toArray 99)) [.int .i64 0, .int .i64 0, .int .i64 0, .int .i64 0, .int .i64 0, .slice none 0 0] 99
    rw [World.size_alloc] at By
    have Fz := (Fx.new w [.int .i64 0, .int .i64 0, .int .i64 0, .int .i64 0, .int .i64 0, .slice none 0 0] 99).alloc (.cells ([.int .i64 0, .int .i64 0, .int .i64 0, .int .i64 0, .int .i64 0, .slice none 0 0] : List Value).toArray 99)
    have hR := HR3.out
    refine (c_clos_Jobs _ _ _ p0 p1 p2 p3 p4 r _ (hR.below hbW) (by have h7 := hlen.out; omega) (by have h7 := hlen.out; omega) (by have h7 := hlen.out; omega)).mono ?_
    rintro e w3 ⟨a3, c3, rfl, hOw, hb3⟩
    simp only [World.size_alloc] at hOw
    replace Bz := (Bz.below hb3).alloc (.cells ([.int .i64 p0, .int .i64 p1, .int .i64 p2, .int .i64 p3, .int .i64 p4, .slice a3 (duesOf r).length c3] : List Value).toArray 99) |>.drew
    replace By := (By.below hb3).alloc (.cells ([.int .i64 p0, .int .i64 p1, .int .i64 p2, .int .i64 p3, .int .i64 p4, .slice a3 (duesOf r).length c3] : List Value).toArray 99) |>.drew
    replace Fz := (Fz.below hb3).alloc (.cells ([.int .i64 p0, .int .i64 p1, .int .i64 p2, .int .i64 p3, .int .i64 p4, .slice a3 (duesOf r).length c3] : List Value).toArray 99) |>.drew
    have hb4 : Below w.heap.size w w3 := bl_step hb3 hbW.size hbW
    replace hOw := (hOw.below ((Below.refl _ _).alloc (Nat.le_refl _) (.cells ([.int .i64 p0, .int .i64 p1, .int .i64 p2, .int .i64 p3, .int .i64 p4, .slice a3 (duesOf r).length c3] : List Value).toArray 99))).below (Below.refl _ _).drew
    have Bt := Bx.new w3 [.int .i64 p0, .int .i64 p1, .int .i64 p2, .int .i64 p3, .int .i64 p4, .slice a3 (duesOf r).length c3] 99
    have hz3 := hb3.size
    simp only [World.size_alloc] at hz3
    clear hb3
    go_wp2_with fail
    refine restS_begin (SB w w3.heap.size [.int .i64 p0, .int .i64 p1, .int .i64 p2, .int .i64 p3, .int .i64 p4, .slice a3 (duesOf r).length c3]) (by kernel_rfl) (SB.start (hb4.alloc hb4.size _) Bt) ?_
    refine restS_take (v := ?_) 0 rfl (by kernel_rfl) (by kernel_rfl) (by kernel_rfl) (fun _ _ _ h => h) (by rfl) ?_ ?_
    rotate_left
    · intro w9 h9; obtain ⟨h8, h9⟩ := h9; obtain ⟨x9, rfl⟩ := later_of h8; replace h9 := h9.2; clear h8
      go_simp; try with_reducible rfl
    try simp only [Act.put, List.setIfInBounds_toArray, List.set_cons_zero, List.set_cons_succ]
    refine restS_take (v := ?_) 1 rfl (by kernel_rfl) (by kernel_rfl) (by kernel_rfl) (fun _ _ _ h => h) (by rfl) ?_ ?_
    rotate_left
    · intro w9 h9; try dsimp only at h9
      go_split_ands
      go_simp; try with_reducible rfl
    try simp only [Act.put, List.setIfInBounds_toArray, List.set_cons_zero, List.set_cons_succ]
    refine restS_alone 2 rfl (by kernel_rfl) (by rfl) (fun hS K hK => ?_)
    go_wp2_with fail
    rw [run_method_direct (f := 211)]
    rotate_left
    · kernel_rfl
    go_wp2_with fail
    refine (c_Jobs_valid _ _ _ _ _ _ _ _ _ hOw.read).mono ?_
    rintro e w5 ⟨rfl, hb5⟩
    go_wp2_with fail
    have hS2 := SB.step hS hb5
    replace Bz := Bz.below hb5
    replace By := By.below hb5
    replace Fz := Fz.below hb5
    replace hOw := hOw.below hb5
    clear hb5
    refine hK.out _ _ hS2 ?_
    try simp only [Act.put, List.setIfInBounds_toArray, List.set_cons_zero, List.set_cons_succ]
    clear hK K hS hS2
    refine restS_take (v := ?_) 3 rfl (by kernel_rfl) (by kernel_rfl) (by kernel_rfl) (fun _ _ _ h => h) (by rfl) ?_ ?_
    rotate_left
    · intro w9 h9; try dsimp only at h9
      go_split_ands
      go_simp; try with_reducible rfl
    try simp only [Act.put, List.setIfInBounds_toArray, List.set_cons_zero, List.set_cons_succ]
    refine restS_take (v := ?_) 4 rfl (by kernel_rfl) (by kernel_rfl) (by kernel_rfl) (fun _ _ _ h => h) (by rfl) ?_ ?_
    rotate_left
    · intro w9 h9; try dsimp only at h9
      go_split_ands
      go_simp; try with_reducible rfl
    try simp only [Act.put, List.setIfInBounds_toArray, List.set_cons_zero, List.set_cons_succ]
    refine restS_skip 5 rfl (by kernel_rfl) (by kernel_rfl) (by kernel_rfl) (fun _ _ _ h => h) (by rfl) ?_
    try simp only [Act.put, List.setIfInBounds_toArray, List.set_cons_zero, List.set_cons_succ]
    refine restS_skip 6 rfl (by kernel_rfl) (by kernel_rfl) (by kernel_rfl) (fun _ _ _ h => h) (by rfl) ?_
    try simp only [Act.put, List.setIfInBounds_toArray, List.set_cons_zero, List.set_cons_succ]
    refine restS_skip 7 rfl (by kernel_rfl) (by kernel_rfl) (by kernel_rfl) (fun _ _ _ h => h) (by rfl) ?_
    try simp only [Act.put, List.setIfInBounds_toArray, List.set_cons_zero, List.set_cons_succ]
    refine restS_skip 8 rfl (by kernel_rfl) (by kernel_rfl) (by kernel_rfl) (fun _ _ _ h => h) (by rfl) ?_
    try simp only [Act.put, List.setIfInBounds_toArray, List.set_cons_zero, List.set_cons_succ]
    refine restS_skip 9 rfl (by kernel_rfl) (by kernel_rfl) (by kernel_rfl) (fun _ _ _ h => h) (by rfl) ?_
    try simp only [Act.put, List.setIfInBounds_toArray, List.set_cons_zero, List.set_cons_succ]
    refine restS_skip 10 rfl (by kernel_rfl) (by kernel_rfl) (by kernel_rfl) (fun _ _ _ h => h) (by rfl) ?_
    try simp only [Act.put, List.setIfInBounds_toArray, List.set_cons_zero, List.set_cons_succ]
    refine restS_skip 11 rfl (by kernel_rfl) (by kernel_rfl) (by kernel_rfl) (fun _ _ _ h => h) (by rfl) ?_
    try simp only [Act.put, List.setIfInBounds_toArray, List.set_cons_zero, List.set_cons_succ]
    refine restS_take (v := ?_) 12 rfl (by kernel_rfl) (by kernel_rfl) (by kernel_rfl) (fun _ _ _ h => h) (by rfl) ?_ ?_
    rotate_left
    · intro w9 h9; try dsimp only at h9
      go_split_ands
      go_simp; try with_reducible rfl
    try simp only [Act.put, List.setIfInBounds_toArray, List.set_cons_zero, List.set_cons_succ]
    refine restS_done (by kernel_rfl) (fun hS => ?_)
    have hj := Hj.out
    have q0 := Bz.2
    have q1 := By.2
    have q2 := hS.2.2
    have q3 := Fz.2
    have hbB := hS.1
    clear hS
    go_wp2_with fail
    refine bodyPost_ret (v := .tuple #[.agg #[.int .i64 0, .int .i64 0, .int .i64 0, .int .i64 0, .int .i64 0, .slice none 0 0], .bool false]) (by simp [results, Try.results136, go_sem, *]) rfl (retRowJobs_no hj ?_)
    (repeat (first | with_reducible exact Below.refl _ _ | ((with_reducible refine bl_alloc ?_ ?_); (focus (first | (simp; done) | (simp; omega) | omega))) | ((with_reducible refine bl_set ?_ ?_); (focus (first | (simp; done) | (simp; omega) | omega))) | ((with_reducible refine bl_later ?_ ?_); (focus (first | (simp; done) | (simp; omega) | omega))) | with_reducible refine bl_drew ?_ | with_reducible refine bl_drewN ?_ | ((with_reducible refine bl_step (by assumption) ?_ ?_); (focus (first | (simp; done) | (simp; omega) | omega)))))
  · cases hev : decide (r.length % 2 = 0)
    · have Hj : Hid (isJobs l = false) := by show isJobs l = _; rw [Hl.out]; simp only [isJobs, hev]; simp
      go_enter Try.func136, Try.ntmps136
      go_wp2_with (go_at_call 90; refine (c_impl_KindOf _ _ l _ (h' _ (by (repeat (first | with_reducible exact Below.refl _ _ | ((with_reducible refine bl_alloc ?_ ?_); (focus (first | (simp; done) | (simp; omega) | omega))) | ((with_reducible refine bl_set ?_ ?_); (focus (first | (simp; done) | (simp; omega) | omega))) | ((with_reducible refine bl_later ?_ ?_); (focus (first | (simp; done) | (simp; omega) | omega))) | with_reducible refine bl_drew ?_ | with_reducible refine bl_drewN ?_ | ((with_reducible refine bl_step (by assumption) ?_ ?_); (focus (first | (simp; done) | (simp; omega) | omega)))))))).mono ?_; rintro e w' ⟨rfl, rfl⟩)
      go_wp2_with fail
      have hbW : Below w.heap.size w ((w.alloc (.cells ([.int .i64 0, .int .i64 0, .int .i64 0, .int .i64 0, .int .i64 0, .slice none 0 0] : List Value).toArray 99)).alloc (.cells ([.int .i64 0, .int .i64 0, .int .i64 0, .int .i64 0, .int .i64 0, .slice none 0 0] : List Value).toArray 99)) := by (repeat (first | with_reducible exact Below.refl _ _ | ((with_reducible refine bl_alloc ?_ ?_); (focus (first | (simp; done) | (simp; omega) | omega))) | ((with_reducible refine bl_set ?_ ?_); (focus (first | (simp; done) | (simp; omega) | omega))) | ((with_reducible refine bl_later ?_ ?_); (focus (first | (simp; done) | (simp; omega) | omega))) | with_reducible refine bl_drew ?_ | with_reducible refine bl_drewN ?_ | ((with_reducible refine bl_step (by assumption) ?_ ?_); (focus (first | (simp; done) | (simp; omega) | omega)))))
      have Bz := (Bx.new w [.int .i64 0, .int .i64 0, .int .i64 0, .int .i64 0, .int .i64 0, .slice none 0 0] 99).alloc (.cells ([.int .i64 0, .int .i64 0, .int .i64 0, .int .i64 0, .int .i64 0, .slice none 0 0] : List Value).toArray 99)
      have By := Bx.new (w.alloc (.cells ([.int .i64 0, .int .i64 0, .int .i64 0, .int .i64 0, .int .i64 0, .slice none 0 0] : List Value).toArray 99)) [.int .i64 0, .int .i64 0, .int .i64 0, .int .i64 0, .int .i64 0, .slice none 0 0] 99
      rw [World.size_alloc] at By
      have Fz := (Fx.new w [.int .i64 0, .int .i64 0, .int .i64 0, .int .i64 0, .int .i64 0, .slice none 0 0] 99).alloc (.cells ([.int .i64 0, .int .i64 0, .int .i64 0, .int .i64 0, .int .i64 0, .slice none 0 0] : List Value).toArray 99)
      have hR := HR3.out
      refine (c_clos_Jobs _ _ _ p0 p1 p2 p3 p4 r _ (hR.below hbW) (by have h7 := hlen.out; omega) (by have h7 := hlen.out; omega) (by have h7 := hlen.out; omega)).mono ?_
      rintro e w3 ⟨a3, c3, rfl, hOw, hb3⟩
      simp only [World.size_alloc] at hOw
      replace Bz := (Bz.below hb3).alloc (.cells ([.int .i64 p0, .int .i64 p1, .int .i64 p2, .int .i64 p3, .int .i64 p4, .slice a3 (duesOf r).length c3] : List Value).toArray 99) |>.drew
      replace By := (By.below hb3).alloc (.cells ([.int .i64 p0, .int .i64 p1, .int .i64 p2, .int .i64 p3, .int .i64 p4, .slice a3 (duesOf r).length c3] : List Value).toArray 99) |>.drew
      replace Fz := (Fz.below hb3).alloc (.cells ([.int .i64 p0, .int .i64 p1, .int .i64 p2, .int .i64 p3, .int .i64 p4, .slice a3 (duesOf r).length c3] : List Value).toArray 99) |>.drew
      have hb4 : Below w.heap.size w w3 := bl_step hb3 hbW.size hbW
      replace hOw := (hOw.below ((Below.refl _ _).alloc (Nat.le_refl _) (.cells ([.int .i64 p0, .int .i64 p1, .int .i64 p2, .int .i64 p3, .int .i64 p4, .slice a3 (duesOf r).length c3] : List Value).toArray 99))).below (Below.refl _ _).drew
      have Bt := Bx.new w3 [.int .i64 p0, .int .i64 p1, .int .i64 p2, .int .i64 p3, .int .i64 p4, .slice a3 (duesOf r).length c3] 99
      have hz3 := hb3.size
      simp only [World.size_alloc] at hz3
      clear hb3
      go_wp2_with fail
      refine restS_begin (SB w w3.heap.size [.int .i64 p0, .int .i64 p1, .int .i64 p2, .int .i64 p3, .int .i64 p4, .slice a3 (duesOf r).length c3]) (by kernel_rfl) (SB.start (hb4.alloc hb4.size _) Bt) ?_
      refine restS_take (v := ?_) 0 rfl (by kernel_rfl) (by kernel_rfl) (by kernel_rfl) (fun _ _ _ h => h) (by rfl) ?_ ?_
      rotate_left
      · intro w9 h9; obtain ⟨h8, h9⟩ := h9; obtain ⟨x9, rfl⟩ := later_of h8; replace h9 := h9.2; clear h8
        go_simp; try with_reducible rfl
      try simp only [Act.put, List.setIfInBounds_toArray, List.set_cons_zero, List.set_cons_succ]
      refine restS_take (v := ?_) 1 rfl (by kernel_rfl) (by kernel_rfl) (by kernel_rfl) (fun _ _ _ h => h) (by rfl) ?_ ?_
      rotate_left
      · intro w9 h9; try dsimp only at h9
        go_split_ands
        go_simp; try with_reducible rfl
      try simp only [Act.put, List.setIfInBounds_toArray, List.set_cons_zero, List.set_cons_succ]
      refine restS_alone 2 rfl (by kernel_rfl) (by rfl) (fun hS K hK => ?_)
      go_wp2_with fail
      rw [run_method_direct (f := 211)]
      rotate_left
      · kernel_rfl
      go_wp2_with fail
      refine (c_Jobs_valid _ _ _ _ _ _ _ _ _ hOw.read).mono ?_
      rintro e w5 ⟨rfl, hb5⟩
      go_wp2_with fail
      have hS2 := SB.step hS hb5
      replace Bz := Bz.below hb5
      replace By := By.below hb5
      replace Fz := Fz.below hb5
      replace hOw := hOw.below hb5
      clear hb5
      refine hK.out _ _ hS2 ?_
      try simp only [Act.put, List.setIfInBounds_toArray, List.set_cons_zero, List.set_cons_succ]
      clear hK K hS hS2
      refine restS_take (v := ?_) 3 rfl (by kernel_rfl) (by kernel_rfl) (by kernel_rfl) (fun _ _ _ h => h) (by rfl) ?_ ?_
      rotate_left
      · intro w9 h9; try dsimp only at h9
        go_split_ands
        go_simp; try with_reducible rfl
      try simp only [Act.put, List.setIfInBounds_toArray, List.set_cons_zero, List.set_cons_succ]
      refine restS_take (v := ?_) 4 rfl (by kernel_rfl) (by kernel_rfl) (by kernel_rfl) (fun _ _ _ h => h) (by rfl) ?_ ?_
      rotate_left
      · intro w9 h9; try dsimp only at h9
        go_split_ands
        go_simp; try with_reducible rfl
      try simp only [Act.put, List.setIfInBounds_toArray, List.set_cons_zero, List.set_cons_succ]
      refine restS_take (v := ?_) 5 rfl (by kernel_rfl) (by kernel_rfl) (by kernel_rfl) (fun _ _ _ h => h) (by rfl) ?_ ?_
      rotate_left
      · intro w9 h9; obtain ⟨h8, h9⟩ := h9; obtain ⟨x9, rfl⟩ := later_of h8; replace h9 := h9.2; clear h8
        go_simp; try with_reducible rfl
      try simp only [Act.put, List.setIfInBounds_toArray, List.set_cons_zero, List.set_cons_succ]
      refine restS_take (v := ?_) 6 rfl (by kernel_rfl) (by kernel_rfl) (by kernel_rfl) (fun _ _ _ h => h) (by rfl) ?_ ?_
      rotate_left
      · intro w9 h9; try dsimp only at h9
        go_split_ands
        go_simp; try with_reducible rfl
      try simp only [Act.put, List.setIfInBounds_toArray, List.set_cons_zero, List.set_cons_succ]
      refine restS_take (v := ?_) 8 rfl (by kernel_rfl) (by kernel_rfl) (by kernel_rfl) (fun _ _ _ h => h) (by rfl) ?_ ?_
      rotate_left
      · intro w9 h9; try dsimp only at h9
        go_split_ands
        go_simp; try with_reducible rfl
      try simp only [Act.put, List.setIfInBounds_toArray, List.set_cons_zero, List.set_cons_succ]
      refine restS_take (v := ?_) 9 rfl (by kernel_rfl) (by kernel_rfl) (by kernel_rfl) (fun _ _ _ h => h) (by rfl) ?_ ?_
      rotate_left
      · intro w9 h9; try dsimp only at h9
        go_split_ands
        go_simp; try with_reducible rfl
      try simp only [Act.put, List.setIfInBounds_toArray, List.set_cons_zero, List.set_cons_succ]
      refine restS_alone 7 rfl (by kernel_rfl) (by rfl) (fun hS K hK => ?_)
      go_wp2_with fail
      rw [run_method_direct (f := 210)]
      rotate_left
      · kernel_rfl
      go_wp2_with fail
      refine (c_Jobs_fields _ _ _ _ _ _ _ _ _ (hR.1 _ (by simp)) (hR.1 _ (by simp)) (hR.1 _ (by simp)) (hR.1 _ (by simp)) (hR.1 _ (by simp)) hOw.read hsd).mono ?_
      rintro e w6 ⟨a6, c6, rfl, ho6, hb6⟩
      go_wp2_with fail
      have hS2 := SB.step hS hb6
      replace Bz := Bz.below hb6
      replace By := By.below hb6
      replace Fz := Fz.below hb6
      replace hOw := hOw.below hb6
      clear hb6
      refine hK.out _ _ hS2 ?_
      try simp only [Act.put, List.setIfInBounds_toArray, List.set_cons_zero, List.set_cons_succ]
      clear hK K hS hS2
      refine restS_alone 10 rfl (by kernel_rfl) (by rfl) (fun hS K hK => ?_)
      go_wp2_with fail
      refine (c_SameRow _ _ _ _ (fieldsJobs p0 p1 p2 p3 p4 (duesOf r)) (p0 :: p1 :: p2 :: p3 :: p4 :: r) _ ho6.read (hR.below hS.1)).mono ?_
      rintro e w7 ⟨rfl, hb7⟩
      rw [jobs_fields_eq]
      go_wp2_with fail
      have hS2 := SB.step hS hb7
      replace Bz := Bz.below hb7
      replace By := By.below hb7
      replace Fz := Fz.below hb7
      replace hOw := hOw.below hb7
      clear hb7
      refine hK.out _ _ hS2 ?_
      try simp only [Act.put, List.setIfInBounds_toArray, List.set_cons_zero, List.set_cons_succ]
      clear hK K hS hS2
      refine restS_take (v := ?_) 11 rfl (by kernel_rfl) (by kernel_rfl) (by kernel_rfl) (fun _ _ _ h => h) (by rfl) ?_ ?_
      rotate_left
      · intro w9 h9; try dsimp only at h9
        go_split_ands
        go_simp; try with_reducible rfl
      try simp only [Act.put, List.setIfInBounds_toArray, List.set_cons_zero, List.set_cons_succ]
      refine restS_take (v := ?_) 12 rfl (by kernel_rfl) (by kernel_rfl) (by kernel_rfl) (fun _ _ _ h => h) (by rfl) ?_ ?_
      rotate_left
      · intro w9 h9; try dsimp only at h9
        go_split_ands
        go_simp; try with_reducible rfl
      try simp only [Act.put, List.setIfInBounds_toArray, List.set_cons_zero, List.set_cons_succ]
      refine restS_done (by kernel_rfl) (fun hS => ?_)
      have hj := Hj.out
      have q0 := Bz.2
      have q1 := By.2
      have q2 := hS.2.2
      have q3 := Fz.2
      have hbB := hS.1
      clear hS
      go_wp2_with fail
      refine bodyPost_ret (v := .tuple #[.agg #[.int .i64 0, .int .i64 0, .int .i64 0, .int .i64 0, .int .i64 0, .slice none 0 0], .bool false]) (by simp [results, Try.results136, go_sem, *]) rfl (retRowJobs_no hj ?_)
      (repeat (first | with_reducible exact Below.refl _ _ | ((with_reducible refine bl_alloc ?_ ?_); (focus (first | (simp; done) | (simp; omega) | omega))) | ((with_reducible refine bl_set ?_ ?_); (focus (first | (simp; done) | (simp; omega) | omega))) | ((with_reducible refine bl_later ?_ ?_); (focus (first | (simp; done) | (simp; omega) | omega))) | with_reducible refine bl_drew ?_ | with_reducible refine bl_drewN ?_ | ((with_reducible refine bl_step (by assumption) ?_ ?_); (focus (first | (simp; done) | (simp; omega) | omega)))))
    · have Hj : Hid (isJobs (9 :: p0 :: p1 :: p2 :: p3 :: p4 :: r) = true) := by show isJobs _ = _; simp only [isJobs, hev, hE]; simp [hlr]
      go_enter Try.func136, Try.ntmps136
      go_wp2_with (go_at_call 90; refine (c_impl_KindOf _ _ l _ (h' _ (by (repeat (first | with_reducible exact Below.refl _ _ | ((with_reducible refine bl_alloc ?_ ?_); (focus (first | (simp; done) | (simp; omega) | omega))) | ((with_reducible refine bl_set ?_ ?_); (focus (first | (simp; done) | (simp; omega) | omega))) | ((with_reducible refine bl_later ?_ ?_); (focus (first | (simp; done) | (simp; omega) | omega))) | with_reducible refine bl_drew ?_ | with_reducible refine bl_drewN ?_ | ((with_reducible refine bl_step (by assumption) ?_ ?_); (focus (first | (simp; done) | (simp; omega) | omega)))))))).mono ?_; rintro e w' ⟨rfl, rfl⟩)
      go_wp2_with fail
      have hbW : Below w.heap.size w ((w.alloc (.cells ([.int .i64 0, .int .i64 0, .int .i64 0, .int .i64 0, .int .i64 0, .slice none 0 0] : List Value).toArray 99)).alloc (.cells ([.int .i64 0, .int .i64 0, .int .i64 0, .int .i64 0, .int .i64 0, .slice none 0 0] : List Value).toArray 99)) := by (repeat (first | with_reducible exact Below.refl _ _ | ((with_reducible refine bl_alloc ?_ ?_); (focus (first | (simp; done) | (simp; omega) | omega))) | ((with_reducible refine bl_set ?_ ?_); (focus (first | (simp; done) | (simp; omega) | omega))) | ((with_reducible refine bl_later ?_ ?_); (focus (first | (simp; done) | (simp; omega) | omega))) | with_reducible refine bl_drew ?_ | with_reducible refine bl_drewN ?_ | ((with_reducible refine bl_step (by assumption) ?_ ?_); (focus (first | (simp; done) | (simp; omega) | omega)))))
      have Bz := (Bx.new w [.int .i64 0, .int .i64 0, .int .i64 0, .int .i64 0, .int .i64 0, .slice none 0 0] 99).alloc (.cells ([.int .i64 0, .int .i64 0, .int .i64 0, .int .i64 0, .int .i64 0, .slice none 0 0] : List Value).toArray 99)
      have By := Bx.new (w.alloc (.cells ([.int .i64 0, .int .i64 0, .int .i64 0, .int .i64 0, .int .i64 0, .slice none 0 0] : List Value).toArray 99)) [.int .i64 0, .int .i64 0, .int .i64 0, .int .i64 0, .int .i64 0, .slice none 0 0] 99
      rw [World.size_alloc] at By
      have Fz := (Fx.new w [.int .i64 0, .int .i64 0, .int .i64 0, .int .i64 0, .int .i64 0, .slice none 0 0] 99).alloc (.cells ([.int .i64 0, .int .i64 0, .int .i64 0, .int .i64 0, .int .i64 0, .slice none 0 0] : List Value).toArray 99)
      have hR := HR3.out
      refine (c_clos_Jobs _ _ _ p0 p1 p2 p3 p4 r _ (hR.below hbW) (by have h7 := hlen.out; omega) (by have h7 := hlen.out; omega) (by have h7 := hlen.out; omega)).mono ?_
      rintro e w3 ⟨a3, c3, rfl, hOw, hb3⟩
      simp only [World.size_alloc] at hOw
      replace Bz := (Bz.below hb3).alloc (.cells ([.int .i64 p0, .int .i64 p1, .int .i64 p2, .int .i64 p3, .int .i64 p4, .slice a3 (duesOf r).length c3] : List Value).toArray 99) |>.drew
      replace By := (By.below hb3).alloc (.cells ([.int .i64 p0, .int .i64 p1, .int .i64 p2, .int .i64 p3, .int .i64 p4, .slice a3 (duesOf r).length c3] : List Value).toArray 99) |>.drew
      replace Fz := (Fz.below hb3).alloc (.cells ([.int .i64 p0, .int .i64 p1, .int .i64 p2, .int .i64 p3, .int .i64 p4, .slice a3 (duesOf r).length c3] : List Value).toArray 99) |>.drew
      have hb4 : Below w.heap.size w w3 := bl_step hb3 hbW.size hbW
      replace hOw := (hOw.below ((Below.refl _ _).alloc (Nat.le_refl _) (.cells ([.int .i64 p0, .int .i64 p1, .int .i64 p2, .int .i64 p3, .int .i64 p4, .slice a3 (duesOf r).length c3] : List Value).toArray 99))).below (Below.refl _ _).drew
      have Bt := Bx.new w3 [.int .i64 p0, .int .i64 p1, .int .i64 p2, .int .i64 p3, .int .i64 p4, .slice a3 (duesOf r).length c3] 99
      have hz3 := hb3.size
      simp only [World.size_alloc] at hz3
      clear hb3
      go_wp2_with fail
      refine restS_begin (SB w w3.heap.size [.int .i64 p0, .int .i64 p1, .int .i64 p2, .int .i64 p3, .int .i64 p4, .slice a3 (duesOf r).length c3]) (by kernel_rfl) (SB.start (hb4.alloc hb4.size _) Bt) ?_
      refine restS_take (v := ?_) 0 rfl (by kernel_rfl) (by kernel_rfl) (by kernel_rfl) (fun _ _ _ h => h) (by rfl) ?_ ?_
      rotate_left
      · intro w9 h9; obtain ⟨h8, h9⟩ := h9; obtain ⟨x9, rfl⟩ := later_of h8; replace h9 := h9.2; clear h8
        go_simp; try with_reducible rfl
      try simp only [Act.put, List.setIfInBounds_toArray, List.set_cons_zero, List.set_cons_succ]
      refine restS_take (v := ?_) 1 rfl (by kernel_rfl) (by kernel_rfl) (by kernel_rfl) (fun _ _ _ h => h) (by rfl) ?_ ?_
      rotate_left
      · intro w9 h9; try dsimp only at h9
        go_split_ands
        go_simp; try with_reducible rfl
      try simp only [Act.put, List.setIfInBounds_toArray, List.set_cons_zero, List.set_cons_succ]
      refine restS_alone 2 rfl (by kernel_rfl) (by rfl) (fun hS K hK => ?_)
      go_wp2_with fail
      rw [run_method_direct (f := 211)]
      rotate_left
      · kernel_rfl
      go_wp2_with fail
      refine (c_Jobs_valid _ _ _ _ _ _ _ _ _ hOw.read).mono ?_
      rintro e w5 ⟨rfl, hb5⟩
      go_wp2_with fail
      have hS2 := SB.step hS hb5
      replace Bz := Bz.below hb5
      replace By := By.below hb5
      replace Fz := Fz.below hb5
      replace hOw := hOw.below hb5
      clear hb5
      refine hK.out _ _ hS2 ?_
      try simp only [Act.put, List.setIfInBounds_toArray, List.set_cons_zero, List.set_cons_succ]
      clear hK K hS hS2
      refine restS_take (v := ?_) 3 rfl (by kernel_rfl) (by kernel_rfl) (by kernel_rfl) (fun _ _ _ h => h) (by rfl) ?_ ?_
      rotate_left
      · intro w9 h9; try dsimp only at h9
        go_split_ands
        go_simp; try with_reducible rfl
      try simp only [Act.put, List.setIfInBounds_toArray, List.set_cons_zero, List.set_cons_succ]
      refine restS_take (v := ?_) 4 rfl (by kernel_rfl) (by kernel_rfl) (by kernel_rfl) (fun _ _ _ h => h) (by rfl) ?_ ?_
      rotate_left
      · intro w9 h9; try dsimp only at h9
        go_split_ands
        go_simp; try with_reducible rfl
      try simp only [Act.put, List.setIfInBounds_toArray, List.set_cons_zero, List.set_cons_succ]
      refine restS_take (v := ?_) 5 rfl (by kernel_rfl) (by kernel_rfl) (by kernel_rfl) (fun _ _ _ h => h) (by rfl) ?_ ?_
      rotate_left
      · intro w9 h9; obtain ⟨h8, h9⟩ := h9; obtain ⟨x9, rfl⟩ := later_of h8; replace h9 := h9.2; clear h8
        go_simp; try with_reducible rfl
      try simp only [Act.put, List.setIfInBounds_toArray, List.set_cons_zero, List.set_cons_succ]
      refine restS_take (v := ?_) 6 rfl (by kernel_rfl) (by kernel_rfl) (by kernel_rfl) (fun _ _ _ h => h) (by rfl) ?_ ?_
      rotate_left
      · intro w9 h9; try dsimp only at h9
        go_split_ands
        go_simp; try with_reducible rfl
      try simp only [Act.put, List.setIfInBounds_toArray, List.set_cons_zero, List.set_cons_succ]
      refine restS_take (v := ?_) 8 rfl (by kernel_rfl) (by kernel_rfl) (by kernel_rfl) (fun _ _ _ h => h) (by rfl) ?_ ?_
      rotate_left
      · intro w9 h9; try dsimp only at h9
        go_split_ands
        go_simp; try with_reducible rfl
      try simp only [Act.put, List.setIfInBounds_toArray, List.set_cons_zero, List.set_cons_succ]
      refine restS_take (v := ?_) 9 rfl (by kernel_rfl) (by kernel_rfl) (by kernel_rfl) (fun _ _ _ h => h) (by rfl) ?_ ?_
      rotate_left
      · intro w9 h9; try dsimp only at h9
        go_split_ands
        go_simp; try with_reducible rfl
      try simp only [Act.put, List.setIfInBounds_toArray, List.set_cons_zero, List.set_cons_succ]
      refine restS_alone 7 rfl (by kernel_rfl) (by rfl) (fun hS K hK => ?_)
      go_wp2_with fail
      rw [run_method_direct (f := 210)]
      rotate_left
      · kernel_rfl
      go_wp2_with fail
      refine (c_Jobs_fields _ _ _ _ _ _ _ _ _ (hR.1 _ (by simp)) (hR.1 _ (by simp)) (hR.1 _ (by simp)) (hR.1 _ (by simp)) (hR.1 _ (by simp)) hOw.read hsd).mono ?_
      rintro e w6 ⟨a6, c6, rfl, ho6, hb6⟩
      go_wp2_with fail
      have hS2 := SB.step hS hb6
      replace Bz := Bz.below hb6
      replace By := By.below hb6
      replace Fz := Fz.below hb6
      replace hOw := hOw.below hb6
      clear hb6
      refine hK.out _ _ hS2 ?_
      try simp only [Act.put, List.setIfInBounds_toArray, List.set_cons_zero, List.set_cons_succ]
      clear hK K hS hS2
      refine restS_alone 10 rfl (by kernel_rfl) (by rfl) (fun hS K hK => ?_)
      go_wp2_with fail
      refine (c_SameRow _ _ _ _ (fieldsJobs p0 p1 p2 p3 p4 (duesOf r)) (p0 :: p1 :: p2 :: p3 :: p4 :: r) _ ho6.read (hR.below hS.1)).mono ?_
      rintro e w7 ⟨rfl, hb7⟩
      rw [jobs_fields_eq]
      go_wp2_with fail
      have hS2 := SB.step hS hb7
      replace Bz := Bz.below hb7
      replace By := By.below hb7
      replace Fz := Fz.below hb7
      replace hOw := hOw.below hb7
      clear hb7
      refine hK.out _ _ hS2 ?_
      try simp only [Act.put, List.setIfInBounds_toArray, List.set_cons_zero, List.set_cons_succ]
      clear hK K hS hS2
      refine restS_take (v := ?_) 11 rfl (by kernel_rfl) (by kernel_rfl) (by kernel_rfl) (fun _ _ _ h => h) (by rfl) ?_ ?_
      rotate_left
      · intro w9 h9; try dsimp only at h9
        go_split_ands
        go_simp; try with_reducible rfl
      try simp only [Act.put, List.setIfInBounds_toArray, List.set_cons_zero, List.set_cons_succ]
      refine restS_take (v := ?_) 12 rfl (by kernel_rfl) (by kernel_rfl) (by kernel_rfl) (fun _ _ _ h => h) (by rfl) ?_ ?_
      rotate_left
      · intro w9 h9; try dsimp only at h9
        go_split_ands
        go_simp; try with_reducible rfl
      try simp only [Act.put, List.setIfInBounds_toArray, List.set_cons_zero, List.set_cons_succ]
      refine restS_done (by kernel_rfl) (fun hS => ?_)
      have hj := Hj.out
      have q0 := Bz.2
      have q1 := By.2
      have q2 := hS.2.2
      have q3 := Fz.2
      have hbB := hS.1
      clear hS
      go_wp2_with fail
      refine bodyPost_ret (v := .tuple #[.agg #[.int .i64 p0, .int .i64 p1, .int .i64 p2, .int .i64 p3, .int .i64 p4, .slice a3 (duesOf r).length c3], .bool true]) (by simp [results, Try.results136, go_sem, *]) rfl ?_
      rw [Hl.out]
      refine retRowJobs_yes hj ?_ (by (repeat (first | with_reducible exact Below.refl _ _ | ((with_reducible refine bl_alloc ?_ ?_); (focus (first | (simp; done) | (simp; omega) | omega))) | ((with_reducible refine bl_set ?_ ?_); (focus (first | (simp; done) | (simp; omega) | omega))) | ((with_reducible refine bl_later ?_ ?_); (focus (first | (simp; done) | (simp; omega) | omega))) | with_reducible refine bl_drew ?_ | with_reducible refine bl_drewN ?_ | ((with_reducible refine bl_step (by assumption) ?_ ?_); (focus (first | (simp; done) | (simp; omega) | omega))))))
      refine OwnA.weak (lo := w.heap.size + 1 + 1) (by omega) ?_
      repeat (first | ((with_reducible refine OwnA.set ?_ ?_); (focus (first | (simp; done) | (simp; omega) | omega))))
      exact hOw
theorem c_decoded_Jobs (ao : Option Addr) (cap : Nat) (l : List Int) (w : World) (hh : IntsR w ao l) (hcap : l.length ≤ cap) : Calls Try.prog 136 #[.slice ao l.length cap, .int .i64 9, .int .i64 5, .int .i64 21, .func (Fn.func 137) #[] #[]] w (RetRowJobs w l) := by
  cases hk : (kindOf l != 9)
  · by_cases h2 : l.length < 6 ∨ 22 < l.length
    · exact c_decoded_Jobs_len ao cap l w hh hcap hk h2
    · obtain ⟨x0, p0, p1, p2, p3, p4, r, e⟩ := six (l := l) (by omega)
      obtain ⟨hl0, hl1, hd⟩ := kindOf_pos hk (by omega)
      rw [e] at hd
      obtain rfl : x0 = 9 := by simpa using hd
      exact c_decoded_Jobs_good ao cap l p0 p1 p2 p3 p4 r w hh hcap e hk (by omega) (by omega)
  · exact c_decoded_Jobs_bad ao cap l w hh hcap hk
theorem c_spec_RowJobs (ao : Option Addr) (cap : Nat) (l : List Int) (w : World) (hh : IntsR w ao l) (hcap : l.length ≤ cap) : Calls Try.prog 81 #[.slice ao l.length cap] w (RetRowJobs w l) := by
  by_cases hbad : l.length < 6 ∨ 22 < l.length ∨ l.length % 2 ≠ 0 ∨ l.headD 0 ≠ 9
  · have hj : isJobs l = false := by
      rcases hbad with h | h | h | h
      · exact isJobs_short h
      · exact isJobs_long h
      · exact isJobs_odd h
      · cases hj : isJobs l
        · rfl
        · exfalso
          by_cases h6 : l.length < 6
          · rw [isJobs_short h6] at hj; simp at hj
          · obtain ⟨x0, p0, p1, p2, p3, p4, r, rfl⟩ := six (l := l) (by omega)
            simp only [isJobs, Bool.and_eq_true, beq_iff_eq] at hj
            exact h (by simp [hj.2.2.1])
    exact (c_spec_RowJobs_bad ao cap l w hh hbad).mono fun e w' ⟨he, hb⟩ => by rw [he]; exact retRowJobs_no hj hb
  · obtain ⟨x0, p0, p1, p2, p3, p4, r, e⟩ := six (l := l) (by omega)
    have h9 : x0 = 9 := by
      have h7 : l.headD 0 = 9 := by omega
      rw [e] at h7; simpa using h7
    rw [h9] at e
    exact c_spec_RowJobs_shape ao cap l p0 p1 p2 p3 p4 r w hh e (by omega) (by omega) (by show _ = _; omega)
theorem c_impl_RowJobs (ao : Option Addr) (cap : Nat) (l : List Int) (w : World) (hh : IntsR w ao l) (hcap : l.length ≤ cap) : Calls Try.prog 82 #[.slice ao l.length cap] w (RetRowJobs w l) := by
  have key := c_decoded_Jobs ao cap l (w.alloc (.cells ([.int .i64 0, .int .i64 0, .int .i64 0, .int .i64 0, .int .i64 0, .slice none 0 0] : List Value).toArray 99)) (hh.below (by (repeat (first | with_reducible exact Below.refl _ _ | ((with_reducible refine bl_alloc ?_ ?_); (focus (first | (simp; done) | (simp; omega) | omega))) | ((with_reducible refine bl_set ?_ ?_); (focus (first | (simp; done) | (simp; omega) | omega))) | ((with_reducible refine bl_later ?_ ?_); (focus (first | (simp; done) | (simp; omega) | omega))) | with_reducible refine bl_drew ?_ | with_reducible refine bl_drewN ?_ | ((with_reducible refine bl_step (by assumption) ?_ ?_); (focus (first | (simp; done) | (simp; omega) | omega))))))) hcap
  go_enter Try.func82, Try.ntmps82
  go_wp2_with fail
  refine key.mono ?_
  rintro e w1 ⟨a1, c1, rfl, ho1, hb⟩
  have q0 := ((Bx.new w [.int .i64 0, .int .i64 0, .int .i64 0, .int .i64 0, .int .i64 0, .slice none 0 0] 99).below hb).2
  have q1 := ((Fx.new w [.int .i64 0, .int .i64 0, .int .i64 0, .int .i64 0, .int .i64 0, .slice none 0 0] 99).below hb).2
  have hz := hb.size
  simp only [World.size_alloc] at hz ho1
  clear key
  go_wp2_with fail
  refine bodyPost_ret (v := .tuple #[.agg #[.int .i64 (jobsHead l).1, .int .i64 (jobsHead l).2.1, .int .i64 (jobsHead l).2.2.1, .int .i64 (jobsHead l).2.2.2.1, .int .i64 (jobsHead l).2.2.2.2, .slice a1 (jobsOpen l).length c1], .bool (isJobs l)]) (by simp [results, Try.results82, go_sem, *]) rfl ⟨a1, c1, rfl, ?_, by (repeat (first | with_reducible exact Below.refl _ _ | ((with_reducible refine bl_alloc ?_ ?_); (focus (first | (simp; done) | (simp; omega) | omega))) | ((with_reducible refine bl_set ?_ ?_); (focus (first | (simp; done) | (simp; omega) | omega))) | ((with_reducible refine bl_later ?_ ?_); (focus (first | (simp; done) | (simp; omega) | omega))) | with_reducible refine bl_drew ?_ | with_reducible refine bl_drewN ?_ | ((with_reducible refine bl_step (by assumption) ?_ ?_); (focus (first | (simp; done) | (simp; omega) | omega)))))⟩
  refine OwnA.weak (lo := w.heap.size + 1) (by omega) ?_
  repeat (first | ((with_reducible refine OwnA.set ?_ ?_); (focus (first | (simp; done) | (simp; omega) | omega))))
  exact ho1

end Go.Proofs.Ytpfkfppooeikeaa
/- Walks of functions of the program, printed by a program of the prover. -/
namespace Go.Proofs.Ytpfkfppooeikeaa
open Go.RowKit
set_option maxHeartbeats 400000
set_option maxRecDepth 100000
def rowAck (c s i l : Int) : List Int := if ackOk c s i l then [2, c, s, i, l] else []
theorem rowAck_t {c s i l : Int} (h9 : (ackOk c s i l) = true) : rowAck c s i l = [2, c, s, i, l] := by unfold rowAck; rw [h9]; rfl
theorem rowAck_f {c s i l : Int} (h9 : (ackOk c s i l) = false) : rowAck c s i l = [] := by unfold rowAck; rw [h9]; rfl
theorem c_spec_AckRow (c s i l : Int) (w : World) (yc : inI64 c) (ys : inI64 s) (yi : inI64 i) (yl : inI64 l) : Calls Try.prog 52 #[.agg #[.int .i64 c, .int .i64 s, .int .i64 i, .int .i64 l]] w (RetI w 2 (rowAck c s i l)) := by
  cases hE : (ackOk c s i l)
  · rw [rowAck_f hE]
    go_enter Try.func52, Try.ntmps52
    go_wp2_with (first | (go_at_call 114; refine (c_spec_AckOk _ _ _ _ _).mono ?_; rintro e w1 ⟨rfl, hb⟩; obtain ⟨hc, hf, hsz⟩ := bcell hb; have hz := hb.size; (try simp at hz)))
    go_ret
    exact ⟨_, _, rfl, owns_empty w1 _ _ (by omega), by (repeat (first | with_reducible exact Below.refl _ _ | ((with_reducible refine bl_alloc ?_ ?_); (focus (first | (simp; done) | (simp; omega) | omega))) | ((with_reducible refine bl_set ?_ ?_); (focus (first | (simp; done) | (simp; omega) | omega))) | ((with_reducible refine bl_later ?_ ?_); (focus (first | (simp; done) | (simp; omega) | omega))) | with_reducible refine bl_drew ?_ | with_reducible refine bl_drewN ?_ | ((with_reducible refine bl_step (by assumption) ?_ ?_); (focus (first | (simp; done) | (simp; omega) | omega)))))⟩
  · rw [rowAck_t hE]
    go_enter Try.func52, Try.ntmps52
    go_wp2_with (first | (go_at_call 114; refine (c_spec_AckOk _ _ _ _ _).mono ?_; rintro e w1 ⟨rfl, hb⟩; obtain ⟨hc, hf, hsz⟩ := bcell hb; have hz := hb.size; (try simp at hz)))
    go_ret
    exact ⟨_, _, rfl, owns_lit w1 _ _ [2, c, s, i, l] (by omega) (by simp) (by have k9 : inI64 2 := (by simp [inI64]); simp [k9, yc, ys, yi, yl]), by (repeat (first | with_reducible exact Below.refl _ _ | ((with_reducible refine bl_alloc ?_ ?_); (focus (first | (simp; done) | (simp; omega) | omega))) | ((with_reducible refine bl_set ?_ ?_); (focus (first | (simp; done) | (simp; omega) | omega))) | ((with_reducible refine bl_later ?_ ?_); (focus (first | (simp; done) | (simp; omega) | omega))) | with_reducible refine bl_drew ?_ | with_reducible refine bl_drewN ?_ | ((with_reducible refine bl_step (by assumption) ?_ ?_); (focus (first | (simp; done) | (simp; omega) | omega)))))⟩
theorem c_kindOf_Ack (c s i l : Int) (w : World) : Calls Try.prog 149 #[.iface 57 (.agg #[.int .i64 c, .int .i64 s, .int .i64 i, .int .i64 l])] w fun e w' => e = .returned (.int .i64 2) ∧ w = w' := by
  have n_Ask := ta_Ask 57 (by decide)
  have yes := @ta_yes Try.prog 57 179 _ Try.underlying57 rfl
  go_enter Try.func149, Try.ntmps149
  go_wp2
  go_ret
  exact ⟨rfl, rfl⟩
theorem c_Ack_valid (c s i l : Int) (w : World) : Calls Try.prog 205 #[.agg #[.int .i64 c, .int .i64 s, .int .i64 i, .int .i64 l]] w fun e w' => e = .returned (.bool (ackOk c s i l)) ∧ Below w.heap.size w w' := by
  go_enter Try.func205, Try.ntmps205
  go_wp2_with (first | (go_at_call 206; refine (c_impl_AckOk _ _ _ _ _).mono ?_; rintro e w1 ⟨rfl, hb⟩; obtain ⟨hc, hf, hsz⟩ := bcell hb; have hz := hb.size; (try simp at hz)))
  go_ret
  exact ⟨rfl, by (repeat (first | with_reducible exact Below.refl _ _ | ((with_reducible refine bl_alloc ?_ ?_); (focus (first | (simp; done) | (simp; omega) | omega))) | ((with_reducible refine bl_set ?_ ?_); (focus (first | (simp; done) | (simp; omega) | omega))) | ((with_reducible refine bl_later ?_ ?_); (focus (first | (simp; done) | (simp; omega) | omega))) | with_reducible refine bl_drew ?_ | with_reducible refine bl_drewN ?_ | ((with_reducible refine bl_step (by assumption) ?_ ?_); (focus (first | (simp; done) | (simp; omega) | omega)))))⟩
theorem c_Ack_fields (c s i l : Int) (w : World) (yc : inI64 c) (ys : inI64 s) (yi : inI64 i) (yl : inI64 l) : Calls Try.prog 204 #[.agg #[.int .i64 c, .int .i64 s, .int .i64 i, .int .i64 l]] w (RetI w 2 [c, s, i, l]) := by
  go_enter Try.func204, Try.ntmps204
  go_wp2
  go_ret
  have h9 := owns_lit (w.alloc (.cells ([.int .i64 c, .int .i64 s, .int .i64 i, .int .i64 l] : List Value).toArray 57)) w.heap.size 2 [c, s, i, l] (by simp) (by simp) (by simp [yc, ys, yi, yl])
  rw [World.size_alloc] at h9
  exact ⟨_, _, rfl, h9, by (repeat (first | with_reducible exact Below.refl _ _ | ((with_reducible refine bl_alloc ?_ ?_); (focus (first | (simp; done) | (simp; omega) | omega))) | ((with_reducible refine bl_set ?_ ?_); (focus (first | (simp; done) | (simp; omega) | omega))) | ((with_reducible refine bl_later ?_ ?_); (focus (first | (simp; done) | (simp; omega) | omega))) | with_reducible refine bl_drew ?_ | with_reducible refine bl_drewN ?_ | ((with_reducible refine bl_step (by assumption) ?_ ?_); (focus (first | (simp; done) | (simp; omega) | omega)))))⟩
theorem c_encoded_Ack (c s i l : Int) (w : World) (yc : inI64 c) (ys : inI64 s) (yi : inI64 i) (yl : inI64 l) : Calls Try.prog 97 #[.iface 57 (.agg #[.int .i64 c, .int .i64 s, .int .i64 i, .int .i64 l])] w (RetI w 2 (rowAck c s i l)) := by
  obtain ⟨i0, hi, hz0, hz1, hz2⟩ := info_parts info_int64
  cases hE : (ackOk c s i l)
  all_goals
    go_enter Try.func97, Try.ntmps97
    go_wp2_with fail
    rw [run_method_direct (f := 205)]
    rotate_left
    · kernel_rfl
    go_wp2_with fail
    refine (c_Ack_valid _ _ _ _ _).mono ?_
    rintro e w1 ⟨rfl, hb1⟩
    have hs1 := hb1.size
    rw [hE]
    go_wp2_with fail
  · rw [rowAck_f hE]
    go_ret
    exact ⟨_, _, rfl, owns_nil w1 _ _, hb1⟩
  · refine (c_kindOf_Ack _ _ _ _ _).mono ?_
    rintro e w1 ⟨rfl, rfl⟩
    go_wp2_with fail
    rw [run_method_direct (f := 204)]
    rotate_left
    · kernel_rfl
    go_wp2_with fail
    refine (c_Ack_fields _ _ _ _ _ yc ys yi yl).mono ?_
    rintro e w2 ⟨a2, c2, rfl, ho2, hb2⟩
    have ho1 := (owns_lit w1 w.heap.size 2 [2] hs1 (by simp) (by simp [inI64]))
    have Ho1 : Hid (IntsO w2 w.heap.size 2 (.slice (some ⟨w1.heap.size, 0, none⟩) [(2 : Int)].length 1) [2]) := ⟨ho1.1, ho1.2.1, owns_below ho1.2.2 hb2⟩
    have Ho2 := Lib.hid ho2.read
    have hz := hb2.size
    clear ho1 ho2
    go_wp2_with (at_builtin; refine wpList_append_ints rfl _ _ _ rfl w.heap.size 2 i0 Try.underlying22 hi hz0 hz1 hz2 _ _ _ _ [2] [c, s, i, l] rfl Ho1.out rfl Ho2.out (by simp) (by simp at hz; omega) (fun a3 c3 w3 ho3 hg3 => ?_))
    go_ret
    rw [rowAck_t hE]
    exact ⟨a3, c3, rfl, ho3, (bl_step hb2 (by simp; omega) (by (repeat (first | with_reducible exact Below.refl _ _ | ((with_reducible refine bl_alloc ?_ ?_); (focus (first | (simp; done) | (simp; omega) | omega))) | ((with_reducible refine bl_set ?_ ?_); (focus (first | (simp; done) | (simp; omega) | omega))) | ((with_reducible refine bl_later ?_ ?_); (focus (first | (simp; done) | (simp; omega) | omega))) | with_reducible refine bl_drew ?_ | with_reducible refine bl_drewN ?_ | ((with_reducible refine bl_step (by assumption) ?_ ?_); (focus (first | (simp; done) | (simp; omega) | omega))))))).grown hg3 (by simp at hz; omega) (by simp [Value.ownBlock]; omega)⟩
theorem c_impl_AckRow (c s i l : Int) (w : World) (yc : inI64 c) (ys : inI64 s) (yi : inI64 i) (yl : inI64 l) : Calls Try.prog 54 #[.agg #[.int .i64 c, .int .i64 s, .int .i64 i, .int .i64 l]] w (RetI w 2 (rowAck c s i l)) := by
  go_enter Try.func54, Try.ntmps54
  go_wp2_with fail
  refine (c_encoded_Ack _ _ _ _ _ yc ys yi yl).mono ?_
  rintro e w1 ⟨a1, c1, rfl, ho1, hb1⟩
  go_wp2_with fail
  go_ret
  exact ⟨a1, c1, rfl, ho1.lower (by simp), bl_step hb1 (by simp) (by (repeat (first | with_reducible exact Below.refl _ _ | ((with_reducible refine bl_alloc ?_ ?_); (focus (first | (simp; done) | (simp; omega) | omega))) | ((with_reducible refine bl_set ?_ ?_); (focus (first | (simp; done) | (simp; omega) | omega))) | ((with_reducible refine bl_later ?_ ?_); (focus (first | (simp; done) | (simp; omega) | omega))) | with_reducible refine bl_drew ?_ | with_reducible refine bl_drewN ?_ | ((with_reducible refine bl_step (by assumption) ?_ ?_); (focus (first | (simp; done) | (simp; omega) | omega))))))⟩
theorem c_law_AckRow (c s i l : Int) (w : World) (yc : inI64 c) (ys : inI64 s) (yi : inI64 i) (yl : inI64 l) : Calls Try.prog 12 #[.agg #[.int .i64 c, .int .i64 s, .int .i64 i, .int .i64 l]] w fun e w' => e = .returned (.bool true) ∧ Below w.heap.size w w' := by
  have hL : (rowAck c s i l).length ≤ 1000 := by unfold rowAck; split <;> simp
  go_enter Try.func12, Try.ntmps12
  go_wp2_with fail
  have Bt := Bx.new w [.int .i64 c, .int .i64 s, .int .i64 i, .int .i64 l] 55
  have hb0 : Below w.heap.size w (w.alloc (.cells ([.int .i64 c, .int .i64 s, .int .i64 i, .int .i64 l] : List Value).toArray 55)) := by (repeat (first | with_reducible exact Below.refl _ _ | ((with_reducible refine bl_alloc ?_ ?_); (focus (first | (simp; done) | (simp; omega) | omega))) | ((with_reducible refine bl_set ?_ ?_); (focus (first | (simp; done) | (simp; omega) | omega))) | ((with_reducible refine bl_later ?_ ?_); (focus (first | (simp; done) | (simp; omega) | omega))) | with_reducible refine bl_drew ?_ | with_reducible refine bl_drewN ?_ | ((with_reducible refine bl_step (by assumption) ?_ ?_); (focus (first | (simp; done) | (simp; omega) | omega)))))
  refine (c_laws_toAck _ _ _ _ _).mono ?_
  rintro e w1 ⟨rfl, hb1⟩
  replace Bt := Bt.below hb1
  replace hb0 := bl_step hb1 hb0.size hb0
  clear hb1
  go_wp2_with fail
  refine (c_spec_AckRow _ _ _ _ _ yc ys yi yl).mono ?_
  rintro e w2 ⟨a2, c2, rfl, ho2, hb2⟩
  have hbt := Bt.1
  have hlt2 := ho2.2.2.lt
  have hs0 := hb0.size
  have hs2 := hb2.size
  replace Bt := Bt.below hb2
  replace hb0 := bl_step hb2 hb0.size hb0
  clear hb2
  have hcell := Bt.2
  go_wp2_with fail
  refine (c_laws_toAck _ _ _ _ _).mono ?_
  rintro e w3 ⟨rfl, hb3⟩
  have hs3 := hb3.size
  replace Bt := Bt.below hb3
  replace hb0 := bl_step hb3 hb0.size hb0
  replace ho2 := ho2.below hb3
  clear hb3 hcell
  go_wp2_with fail
  refine (c_impl_AckRow _ _ _ _ _ yc ys yi yl).mono ?_
  rintro e w4 ⟨a4, c4, rfl, ho4, hb4⟩
  have hlt4 := ho4.2.2.lt
  have hs4 := hb4.size
  replace Bt := Bt.below hb4
  replace hb0 := bl_step hb4 hb0.size hb0
  replace ho2 := ho2.below hb4
  clear hb4
  go_wp2_with fail
  refine (c_eqInt64S _ _ _ _ _ _ _ ho4.read ho2.read).mono ?_
  rintro e w5 ⟨rfl, hb5⟩
  have hs5 := hb5.size
  replace Bt := Bt.below hb5
  replace hb0 := bl_step hb5 hb0.size hb0
  replace ho2 := ho2.below hb5
  replace ho4 := ho4.below hb5
  clear hb5
  go_wp2_with fail
  refine (c_laws_markInt64S _ _ _ _ _ _ ho4 (by omega) (by omega) (by omega)).mono ?_
  rintro e w6 ⟨rfl, ho6, hg6, hz6⟩
  replace ho2 := ho2.kept (B := w3.heap.size) (fun k hk => Nat.lt_of_lt_of_le (hlt2 k hk).2 hs3) (fun k hk => (hlt4 k hk).1) hg6
  replace hb0 := hb0.grown hg6 hb0.size (fun k hk => Nat.le_trans (Nat.le_trans hs0 (Nat.le_trans hs2 hs3)) (hlt4 k hk).1)
  replace Bt := Bt.grown hg6 (fun e => by have := (hlt4 _ e).1; omega)
  clear ho4 hg6
  have Hz6 := Lib.hid hz6
  clear hz6
  have hcell := Bt.2
  go_wp2_with fail
  refine (c_laws_heldInt64S _ _ _ _ _ (read_seqI ho6) (by omega) (by omega) (by omega)).mono ?_
  rintro e w6 ⟨rfl, rfl⟩
  go_wp2_with fail
  refine (c_laws_toAck _ _ _ _ _).mono ?_
  rintro e w7 ⟨rfl, hb7⟩
  replace hb0 := bl_step hb7 hb0.size hb0
  replace ho2 := ho2.below hb7
  replace ho6 := ho6.below hb7
  clear hb7 hcell
  go_wp2_with fail
  refine (c_impl_AckRow _ _ _ _ _ yc ys yi yl).mono ?_
  rintro e w8 ⟨a8, c8, rfl, ho8, hb8⟩
  replace hb0 := bl_step hb8 hb0.size hb0
  replace ho2 := ho2.below hb8
  replace ho6 := ho6.below hb8
  clear hb8
  go_wp2_with fail
  refine (c_eqInt64S _ _ _ _ _ _ _ ho8.read ho2.read).mono ?_
  rintro e w9 ⟨rfl, hb9⟩
  replace hb0 := bl_step hb9 hb0.size hb0
  replace ho6 := ho6.below hb9
  clear hb9
  go_wp2_with fail
  refine (c_laws_heldInt64S _ _ _ _ _ (read_seqI ho6) (by omega) (by omega) (by omega)).mono ?_
  rintro e w9 ⟨rfl, rfl⟩
  go_wp2_with fail
  go_ret
  exact ⟨rfl, hb0⟩

end Go.Proofs.Ytpfkfppooeikeaa
/- Walks of functions of the program, printed by a program of the prover. -/
namespace Go.Proofs.Ytpfkfppooeikeaa
open Go.RowKit
set_option maxHeartbeats 1600000
set_option maxRecDepth 100000
theorem c_clos_Ack (ao : Option Addr) (cap : Nat) (c q i u : Int) (w : World) (hh : IntsR w ao [c, q, i, u]) :
    Calls Try.prog 122 #[.slice ao 4 cap] w fun e w' => e = .returned (.agg #[.int .i64 c, .int .i64 q, .int .i64 i, .int .i64 u]) ∧ Below w.heap.size w w' := by
  obtain ⟨b0, off, rfl, hbl, hr0, hc⟩ := hh.at (k := 0) (by simp)
  have k0 := hc 0 (by simp)
  have k1 := hc 1 (by simp)
  have k2 := hc 2 (by simp)
  have k3 := hc 3 (by simp)
  simp only [List.getElem_cons_zero, List.getElem_cons_succ, Nat.add_zero] at k0 k1 k2 k3
  clear hc hh
  go_enter Try.func122, Try.ntmps122
  go_wp2_with fail
  refine restS_begin (fun W => W.cell? ⟨b0, off, none⟩ = some (.int .i64 c) ∧ W.cell? ⟨b0, off + 1, none⟩ = some (.int .i64 q) ∧ W.cell? ⟨b0, off + 2, none⟩ = some (.int .i64 i) ∧ W.cell? ⟨b0, off + 3, none⟩ = some (.int .i64 u)) (by kernel_rfl) ?_ ?_
  · exact ⟨(World.cell?_alloc_lt _ _ _ hbl).trans k0, (World.cell?_alloc_lt _ _ _ hbl).trans k1, (World.cell?_alloc_lt _ _ _ hbl).trans k2, (World.cell?_alloc_lt _ _ _ hbl).trans k3⟩
  refine restS_take (v := ?_) 0 rfl (by kernel_rfl) (by kernel_rfl) (by kernel_rfl) (fun _ _ _ h => h) (by rfl) ?_ ?_
  rotate_left
  · intro w9 h9; try dsimp only at h9
    go_split_ands
    go_simp; try with_reducible rfl
  try simp only [Act.put, List.setIfInBounds_toArray, List.set_cons_zero, List.set_cons_succ]
  refine restS_take (v := ?_) 1 rfl (by kernel_rfl) (by kernel_rfl) (by kernel_rfl) (fun _ _ _ h => h) (by rfl) ?_ ?_
  rotate_left
  · intro w9 h9; try dsimp only at h9
    go_split_ands
    go_simp; try with_reducible rfl
  try simp only [Act.put, List.setIfInBounds_toArray, List.set_cons_zero, List.set_cons_succ]
  refine restS_take (v := ?_) 2 rfl (by kernel_rfl) (by kernel_rfl) (by kernel_rfl) (fun _ _ _ h => h) (by rfl) ?_ ?_
  rotate_left
  · intro w9 h9; try dsimp only at h9
    go_split_ands
    go_simp; try with_reducible rfl
  try simp only [Act.put, List.setIfInBounds_toArray, List.set_cons_zero, List.set_cons_succ]
  refine restS_take (v := ?_) 3 rfl (by kernel_rfl) (by kernel_rfl) (by kernel_rfl) (fun _ _ _ h => h) (by rfl) ?_ ?_
  rotate_left
  · intro w9 h9; try dsimp only at h9
    go_split_ands
    go_simp; try with_reducible rfl
  try simp only [Act.put, List.setIfInBounds_toArray, List.set_cons_zero, List.set_cons_succ]
  refine restS_take (v := ?_) 4 rfl (by kernel_rfl) (by kernel_rfl) (by kernel_rfl) (fun _ _ _ h => h) (by rfl) ?_ ?_
  rotate_left
  · intro w9 h9; try dsimp only at h9
    go_split_ands
    go_simp; try with_reducible rfl
  try simp only [Act.put, List.setIfInBounds_toArray, List.set_cons_zero, List.set_cons_succ]
  refine restS_take (v := ?_) 5 rfl (by kernel_rfl) (by kernel_rfl) (by kernel_rfl) (fun _ _ _ h => h) (by rfl) ?_ ?_
  rotate_left
  · intro w9 h9; try dsimp only at h9
    go_split_ands
    go_simp; try with_reducible rfl
  try simp only [Act.put, List.setIfInBounds_toArray, List.set_cons_zero, List.set_cons_succ]
  refine restS_take (v := ?_) 6 rfl (by kernel_rfl) (by kernel_rfl) (by kernel_rfl) (fun _ _ _ h => h) (by rfl) ?_ ?_
  rotate_left
  · intro w9 h9; try dsimp only at h9
    go_split_ands
    go_simp; try with_reducible rfl
  try simp only [Act.put, List.setIfInBounds_toArray, List.set_cons_zero, List.set_cons_succ]
  refine restS_take (v := ?_) 7 rfl (by kernel_rfl) (by kernel_rfl) (by kernel_rfl) (fun _ _ _ h => h) (by rfl) ?_ ?_
  rotate_left
  · intro w9 h9; try dsimp only at h9
    go_split_ands
    go_simp; try with_reducible rfl
  try simp only [Act.put, List.setIfInBounds_toArray, List.set_cons_zero, List.set_cons_succ]
  refine restS_take (v := ?_) 8 rfl (by kernel_rfl) (by kernel_rfl) (by kernel_rfl) (fun _ _ _ h => h) (by rfl) ?_ ?_
  rotate_left
  · intro w9 h9; try dsimp only at h9
    go_split_ands
    go_simp; try with_reducible rfl
  try simp only [Act.put, List.setIfInBounds_toArray, List.set_cons_zero, List.set_cons_succ]
  refine restS_take (v := ?_) 9 rfl (by kernel_rfl) (by kernel_rfl) (by kernel_rfl) (fun _ _ _ h => h) (by rfl) ?_ ?_
  rotate_left
  · intro w9 h9; try dsimp only at h9
    go_split_ands
    go_simp; try with_reducible rfl
  try simp only [Act.put, List.setIfInBounds_toArray, List.set_cons_zero, List.set_cons_succ]
  refine restS_take (v := ?_) 10 rfl (by kernel_rfl) (by kernel_rfl) (by kernel_rfl) (fun _ _ _ h => h) (by rfl) ?_ ?_
  rotate_left
  · intro w9 h9; try dsimp only at h9
    go_split_ands
    go_simp; try with_reducible rfl
  try simp only [Act.put, List.setIfInBounds_toArray, List.set_cons_zero, List.set_cons_succ]
  refine restS_take (v := ?_) 11 rfl (by kernel_rfl) (by kernel_rfl) (by kernel_rfl) (fun _ _ _ h => h) (by rfl) ?_ ?_
  rotate_left
  · intro w9 h9; try dsimp only at h9
    go_split_ands
    go_simp; try with_reducible rfl
  try simp only [Act.put, List.setIfInBounds_toArray, List.set_cons_zero, List.set_cons_succ]
  refine restS_take (v := ?_) 12 rfl (by kernel_rfl) (by kernel_rfl) (by kernel_rfl) (fun _ _ _ h => h) (by rfl) ?_ ?_
  rotate_left
  · intro w9 h9; try dsimp only at h9
    go_split_ands
    go_simp; try with_reducible rfl
  try simp only [Act.put, List.setIfInBounds_toArray, List.set_cons_zero, List.set_cons_succ]
  refine restS_alone 13 rfl (by kernel_rfl) (by rfl) (fun hS K hK => ?_)
  go_wp2_with fail
  refine hK.out _ _ ⟨(World.cell?_alloc_lt _ _ _ hbl).trans k0, (World.cell?_alloc_lt _ _ _ hbl).trans k1, (World.cell?_alloc_lt _ _ _ hbl).trans k2, (World.cell?_alloc_lt _ _ _ hbl).trans k3⟩ ?_
  clear hK K hS
  refine restS_done (by kernel_rfl) (fun hS => ?_)
  go_wp2_with fail
  refine bodyPost_ret (v := .agg #[.int .i64 c, .int .i64 q, .int .i64 i, .int .i64 u]) (by simp [results, Try.results122, go_sem, *]) rfl ⟨rfl, ?_⟩
  (repeat (first | with_reducible exact Below.refl _ _ | ((with_reducible refine bl_alloc ?_ ?_); (focus (first | (simp; done) | (simp; omega) | omega))) | ((with_reducible refine bl_set ?_ ?_); (focus (first | (simp; done) | (simp; omega) | omega))) | ((with_reducible refine bl_later ?_ ?_); (focus (first | (simp; done) | (simp; omega) | omega))) | with_reducible refine bl_drew ?_ | with_reducible refine bl_drewN ?_ | ((with_reducible refine bl_step (by assumption) ?_ ?_); (focus (first | (simp; done) | (simp; omega) | omega)))))
def isAck (l : List Int) : Bool := isB l 2 5 && (ackOk (l.getD 1 0) (l.getD 2 0) (l.getD 3 0) (l.getD 4 0))
def partsAck (l : List Int) : List Int := if isAck l then l.tail else [0, 0, 0, 0]
theorem c_spec_RowAck (ao : Option Addr) (cap : Nat) (l : List Int) (w : World) (hh : IntsR w ao l) :
    Calls Try.prog 66 #[.slice ao l.length cap] w fun e w' => e = .returned (.tuple #[.agg ((partsAck l).map (Value.int .i64)).toArray, .bool (isAck l)]) ∧ Below w.heap.size w w' := by
  have hm := hh.2.1
  have h' : ∀ W, Below w.heap.size w W → IntsR W ao l := fun W hb => hh.below hb
  cases hi1 : isB l 2 5
  · have e1 : isAck l = false := by simp [isAck, hi1]
    have e2 : partsAck l = [0, 0, 0, 0] := by simp [partsAck, e1]
    rw [e1, e2]
    simp only [List.map_cons, List.map_nil]
    go_enter Try.func66, Try.ntmps66
    go_wp2_with (go_at_call 116; refine (c_spec_l11Is _ _ 5 _ _ _ (h' _ (by (repeat (first | with_reducible exact Below.refl _ _ | ((with_reducible refine bl_alloc ?_ ?_); (focus (first | (simp; done) | (simp; omega) | omega))) | ((with_reducible refine bl_set ?_ ?_); (focus (first | (simp; done) | (simp; omega) | omega))) | ((with_reducible refine bl_later ?_ ?_); (focus (first | (simp; done) | (simp; omega) | omega))) | with_reducible refine bl_drew ?_ | with_reducible refine bl_drewN ?_ | ((with_reducible refine bl_step (by assumption) ?_ ?_); (focus (first | (simp; done) | (simp; omega) | omega))))))) (by omega) (by omega)).mono ?_; rintro e w' ⟨rfl, rfl⟩)
    refine bodyPost_ret (v := .tuple #[.agg #[.int .i64 0, .int .i64 0, .int .i64 0, .int .i64 0], .bool false]) (by simp [results, Try.results66, go_sem, *]) rfl ⟨rfl, ?_⟩
    (repeat (first | with_reducible exact Below.refl _ _ | ((with_reducible refine bl_alloc ?_ ?_); (focus (first | (simp; done) | (simp; omega) | omega))) | ((with_reducible refine bl_set ?_ ?_); (focus (first | (simp; done) | (simp; omega) | omega))) | ((with_reducible refine bl_later ?_ ?_); (focus (first | (simp; done) | (simp; omega) | omega))) | with_reducible refine bl_drew ?_ | with_reducible refine bl_drewN ?_ | ((with_reducible refine bl_step (by assumption) ?_ ?_); (focus (first | (simp; done) | (simp; omega) | omega)))))
  · obtain ⟨x0, c, q, i, u, rfl⟩ : ∃ x0 c q i u, l = [x0, c, q, i, u] := by
      have hl : l.length = 5 := by simp [isB] at hi1; exact hi1.1
      match l, hl with | [x0, c, q, i, u], _ => exact ⟨x0, c, q, i, u, rfl⟩
    obtain ⟨b0, off, rfl, hbl, hr0, hc⟩ := hh.at (k := 1) (by simp)
    have k1 := hc 1 (by simp)
    have k2 := hc 2 (by simp)
    have k3 := hc 3 (by simp)
    have k4 := hc 4 (by simp)
    clear hc
    simp only [List.getElem_cons_succ, List.getElem_cons_zero, List.length_cons, List.length_nil, Nat.zero_add, Nat.reduceAdd] at k1 k2 k3 k4 hr0 hm hh h' ⊢
    cases hE : (ackOk c q i u)
    · have e1 : isAck [x0, c, q, i, u] = false := by simp only [isAck, hi1, Bool.true_and]; exact hE
      have e2 : partsAck [x0, c, q, i, u] = [0, 0, 0, 0] := by simp [partsAck, e1]
      rw [e1, e2]
      simp only [List.map_cons, List.map_nil]
      go_enter Try.func66, Try.ntmps66
      go_wp2_with (go_at_call 116; refine (c_spec_l11Is _ _ 5 _ [x0, c, q, i, u] _ (h' _ (by (repeat (first | with_reducible exact Below.refl _ _ | ((with_reducible refine bl_alloc ?_ ?_); (focus (first | (simp; done) | (simp; omega) | omega))) | ((with_reducible refine bl_set ?_ ?_); (focus (first | (simp; done) | (simp; omega) | omega))) | ((with_reducible refine bl_later ?_ ?_); (focus (first | (simp; done) | (simp; omega) | omega))) | with_reducible refine bl_drew ?_ | with_reducible refine bl_drewN ?_ | ((with_reducible refine bl_step (by assumption) ?_ ?_); (focus (first | (simp; done) | (simp; omega) | omega))))))) (by omega) (by omega)).mono ?_; rintro e w' ⟨rfl, rfl⟩)
      refine restS_begin (fun W => W.cell? ⟨b0, off + 1, none⟩ = some (.int .i64 c) ∧ W.cell? ⟨b0, off + 2, none⟩ = some (.int .i64 q) ∧ W.cell? ⟨b0, off + 3, none⟩ = some (.int .i64 i) ∧ W.cell? ⟨b0, off + 4, none⟩ = some (.int .i64 u)) (by kernel_rfl) ?_ ?_
      · exact ⟨(World.cell?_alloc_lt _ _ _ hbl).trans k1, (World.cell?_alloc_lt _ _ _ hbl).trans k2, (World.cell?_alloc_lt _ _ _ hbl).trans k3, (World.cell?_alloc_lt _ _ _ hbl).trans k4⟩
      refine restS_take (v := ?_) 0 rfl (by kernel_rfl) (by kernel_rfl) (by kernel_rfl) (fun _ _ _ h => h) (by rfl) ?_ ?_
      rotate_left
      · intro w9 h9; try dsimp only at h9
        go_split_ands
        go_simp; try with_reducible rfl
      try simp only [Act.put, List.setIfInBounds_toArray, List.set_cons_zero, List.set_cons_succ]
      refine restS_take (v := ?_) 1 rfl (by kernel_rfl) (by kernel_rfl) (by kernel_rfl) (fun _ _ _ h => h) (by rfl) ?_ ?_
      rotate_left
      · intro w9 h9; try dsimp only at h9
        go_split_ands
        go_simp; try with_reducible rfl
      try simp only [Act.put, List.setIfInBounds_toArray, List.set_cons_zero, List.set_cons_succ]
      refine restS_take (v := ?_) 2 rfl (by kernel_rfl) (by kernel_rfl) (by kernel_rfl) (fun _ _ _ h => h) (by rfl) ?_ ?_
      rotate_left
      · intro w9 h9; try dsimp only at h9
        go_split_ands
        go_simp; try with_reducible rfl
      try simp only [Act.put, List.setIfInBounds_toArray, List.set_cons_zero, List.set_cons_succ]
      refine restS_take (v := ?_) 3 rfl (by kernel_rfl) (by kernel_rfl) (by kernel_rfl) (fun _ _ _ h => h) (by rfl) ?_ ?_
      rotate_left
      · intro w9 h9; try dsimp only at h9
        go_split_ands
        go_simp; try with_reducible rfl
      try simp only [Act.put, List.setIfInBounds_toArray, List.set_cons_zero, List.set_cons_succ]
      refine restS_take (v := ?_) 4 rfl (by kernel_rfl) (by kernel_rfl) (by kernel_rfl) (fun _ _ _ h => h) (by rfl) ?_ ?_
      rotate_left
      · intro w9 h9; try dsimp only at h9
        go_split_ands
        go_simp; try with_reducible rfl
      try simp only [Act.put, List.setIfInBounds_toArray, List.set_cons_zero, List.set_cons_succ]
      refine restS_take (v := ?_) 5 rfl (by kernel_rfl) (by kernel_rfl) (by kernel_rfl) (fun _ _ _ h => h) (by rfl) ?_ ?_
      rotate_left
      · intro w9 h9; try dsimp only at h9
        go_split_ands
        go_simp; try with_reducible rfl
      try simp only [Act.put, List.setIfInBounds_toArray, List.set_cons_zero, List.set_cons_succ]
      refine restS_take (v := ?_) 6 rfl (by kernel_rfl) (by kernel_rfl) (by kernel_rfl) (fun _ _ _ h => h) (by rfl) ?_ ?_
      rotate_left
      · intro w9 h9; try dsimp only at h9
        go_split_ands
        go_simp; try with_reducible rfl
      try simp only [Act.put, List.setIfInBounds_toArray, List.set_cons_zero, List.set_cons_succ]
      refine restS_take (v := ?_) 7 rfl (by kernel_rfl) (by kernel_rfl) (by kernel_rfl) (fun _ _ _ h => h) (by rfl) ?_ ?_
      rotate_left
      · intro w9 h9; try dsimp only at h9
        go_split_ands
        go_simp; try with_reducible rfl
      try simp only [Act.put, List.setIfInBounds_toArray, List.set_cons_zero, List.set_cons_succ]
      refine restS_take (v := ?_) 8 rfl (by kernel_rfl) (by kernel_rfl) (by kernel_rfl) (fun _ _ _ h => h) (by rfl) ?_ ?_
      rotate_left
      · intro w9 h9; try dsimp only at h9
        go_split_ands
        go_simp; try with_reducible rfl
      try simp only [Act.put, List.setIfInBounds_toArray, List.set_cons_zero, List.set_cons_succ]
      refine restS_take (v := ?_) 9 rfl (by kernel_rfl) (by kernel_rfl) (by kernel_rfl) (fun _ _ _ h => h) (by rfl) ?_ ?_
      rotate_left
      · intro w9 h9; try dsimp only at h9
        go_split_ands
        go_simp; try with_reducible rfl
      try simp only [Act.put, List.setIfInBounds_toArray, List.set_cons_zero, List.set_cons_succ]
      refine restS_take (v := ?_) 10 rfl (by kernel_rfl) (by kernel_rfl) (by kernel_rfl) (fun _ _ _ h => h) (by rfl) ?_ ?_
      rotate_left
      · intro w9 h9; try dsimp only at h9
        go_split_ands
        go_simp; try with_reducible rfl
      try simp only [Act.put, List.setIfInBounds_toArray, List.set_cons_zero, List.set_cons_succ]
      refine restS_take (v := ?_) 11 rfl (by kernel_rfl) (by kernel_rfl) (by kernel_rfl) (fun _ _ _ h => h) (by rfl) ?_ ?_
      rotate_left
      · intro w9 h9; try dsimp only at h9
        go_split_ands
        go_simp; try with_reducible rfl
      try simp only [Act.put, List.setIfInBounds_toArray, List.set_cons_zero, List.set_cons_succ]
      refine restS_take (v := ?_) 12 rfl (by kernel_rfl) (by kernel_rfl) (by kernel_rfl) (fun _ _ _ h => h) (by rfl) ?_ ?_
      rotate_left
      · intro w9 h9; try dsimp only at h9
        go_split_ands
        go_simp; try with_reducible rfl
      try simp only [Act.put, List.setIfInBounds_toArray, List.set_cons_zero, List.set_cons_succ]
      refine restS_alone 13 rfl (by kernel_rfl) (by rfl) (fun hS K hK => ?_)
      go_wp2_with fail
      refine hK.out _ _ ⟨(World.cell?_alloc_lt _ _ _ (by simp; omega)).trans ((World.cell?_alloc_lt _ _ _ hbl).trans k1), (World.cell?_alloc_lt _ _ _ (by simp; omega)).trans ((World.cell?_alloc_lt _ _ _ hbl).trans k2), (World.cell?_alloc_lt _ _ _ (by simp; omega)).trans ((World.cell?_alloc_lt _ _ _ hbl).trans k3), (World.cell?_alloc_lt _ _ _ (by simp; omega)).trans ((World.cell?_alloc_lt _ _ _ hbl).trans k4)⟩ ?_
      clear hK K hS
      refine restS_alone 14 rfl (by kernel_rfl) (by rfl) (fun hS K hK => ?_)
      go_wp2_with fail
      refine hK.out _ _ ⟨(World.cell?_alloc_lt _ _ _ (by simp; omega)).trans ((World.cell?_alloc_lt _ _ _ hbl).trans k1), (World.cell?_alloc_lt _ _ _ (by simp; omega)).trans ((World.cell?_alloc_lt _ _ _ hbl).trans k2), (World.cell?_alloc_lt _ _ _ (by simp; omega)).trans ((World.cell?_alloc_lt _ _ _ hbl).trans k3), (World.cell?_alloc_lt _ _ _ (by simp; omega)).trans ((World.cell?_alloc_lt _ _ _ hbl).trans k4)⟩ ?_
      clear hK K hS
      refine restS_done (by kernel_rfl) (fun hS => ?_)
      clear hS
      go_wp2_with (go_at_call 114; refine (c_spec_AckOk _ _ _ _ _).mono ?_; rintro e w1 ⟨rfl, hb⟩; obtain ⟨hc, hf, hsz⟩ := bcell hb; have hz := hb.size; (try simp at hz); have q0 := (((Bx.new w [.int .i64 0, .int .i64 0, .int .i64 0, .int .i64 0] 57).alloc (.cells #[.int .i64 c, .int .i64 q, .int .i64 i, .int .i64 u] 57)).drew.below hb).2; have q1 := ((Bx.new (w.alloc (.cells #[.int .i64 0, .int .i64 0, .int .i64 0, .int .i64 0] 57)) [.int .i64 c, .int .i64 q, .int .i64 i, .int .i64 u] 57).drew.below hb).2; rw [World.size_alloc] at q1; clear hc)
      refine bodyPost_ret (v := .tuple #[.agg #[.int .i64 0, .int .i64 0, .int .i64 0, .int .i64 0], .bool false]) (by simp [results, Try.results66, go_sem, *]) rfl ⟨rfl, ?_⟩
      (repeat (first | with_reducible exact Below.refl _ _ | ((with_reducible refine bl_alloc ?_ ?_); (focus (first | (simp; done) | (simp; omega) | omega))) | ((with_reducible refine bl_set ?_ ?_); (focus (first | (simp; done) | (simp; omega) | omega))) | ((with_reducible refine bl_later ?_ ?_); (focus (first | (simp; done) | (simp; omega) | omega))) | with_reducible refine bl_drew ?_ | with_reducible refine bl_drewN ?_ | ((with_reducible refine bl_step (by assumption) ?_ ?_); (focus (first | (simp; done) | (simp; omega) | omega)))))
    · have e1 : isAck [x0, c, q, i, u] = true := by simp only [isAck, hi1, Bool.true_and]; exact hE
      have e2 : partsAck [x0, c, q, i, u] = [c, q, i, u] := by simp [partsAck, e1]
      rw [e1, e2]
      simp only [List.map_cons, List.map_nil]
      go_enter Try.func66, Try.ntmps66
      go_wp2_with (go_at_call 116; refine (c_spec_l11Is _ _ 5 _ [x0, c, q, i, u] _ (h' _ (by (repeat (first | with_reducible exact Below.refl _ _ | ((with_reducible refine bl_alloc ?_ ?_); (focus (first | (simp; done) | (simp; omega) | omega))) | ((with_reducible refine bl_set ?_ ?_); (focus (first | (simp; done) | (simp; omega) | omega))) | ((with_reducible refine bl_later ?_ ?_); (focus (first | (simp; done) | (simp; omega) | omega))) | with_reducible refine bl_drew ?_ | with_reducible refine bl_drewN ?_ | ((with_reducible refine bl_step (by assumption) ?_ ?_); (focus (first | (simp; done) | (simp; omega) | omega))))))) (by omega) (by omega)).mono ?_; rintro e w' ⟨rfl, rfl⟩)
      refine restS_begin (fun W => W.cell? ⟨b0, off + 1, none⟩ = some (.int .i64 c) ∧ W.cell? ⟨b0, off + 2, none⟩ = some (.int .i64 q) ∧ W.cell? ⟨b0, off + 3, none⟩ = some (.int .i64 i) ∧ W.cell? ⟨b0, off + 4, none⟩ = some (.int .i64 u)) (by kernel_rfl) ?_ ?_
      · exact ⟨(World.cell?_alloc_lt _ _ _ hbl).trans k1, (World.cell?_alloc_lt _ _ _ hbl).trans k2, (World.cell?_alloc_lt _ _ _ hbl).trans k3, (World.cell?_alloc_lt _ _ _ hbl).trans k4⟩
      refine restS_take (v := ?_) 0 rfl (by kernel_rfl) (by kernel_rfl) (by kernel_rfl) (fun _ _ _ h => h) (by rfl) ?_ ?_
      rotate_left
      · intro w9 h9; try dsimp only at h9
        go_split_ands
        go_simp; try with_reducible rfl
      try simp only [Act.put, List.setIfInBounds_toArray, List.set_cons_zero, List.set_cons_succ]
      refine restS_take (v := ?_) 1 rfl (by kernel_rfl) (by kernel_rfl) (by kernel_rfl) (fun _ _ _ h => h) (by rfl) ?_ ?_
      rotate_left
      · intro w9 h9; try dsimp only at h9
        go_split_ands
        go_simp; try with_reducible rfl
      try simp only [Act.put, List.setIfInBounds_toArray, List.set_cons_zero, List.set_cons_succ]
      refine restS_take (v := ?_) 2 rfl (by kernel_rfl) (by kernel_rfl) (by kernel_rfl) (fun _ _ _ h => h) (by rfl) ?_ ?_
      rotate_left
      · intro w9 h9; try dsimp only at h9
        go_split_ands
        go_simp; try with_reducible rfl
      try simp only [Act.put, List.setIfInBounds_toArray, List.set_cons_zero, List.set_cons_succ]
      refine restS_take (v := ?_) 3 rfl (by kernel_rfl) (by kernel_rfl) (by kernel_rfl) (fun _ _ _ h => h) (by rfl) ?_ ?_
      rotate_left
      · intro w9 h9; try dsimp only at h9
        go_split_ands
        go_simp; try with_reducible rfl
      try simp only [Act.put, List.setIfInBounds_toArray, List.set_cons_zero, List.set_cons_succ]
      refine restS_take (v := ?_) 4 rfl (by kernel_rfl) (by kernel_rfl) (by kernel_rfl) (fun _ _ _ h => h) (by rfl) ?_ ?_
      rotate_left
      · intro w9 h9; try dsimp only at h9
        go_split_ands
        go_simp; try with_reducible rfl
      try simp only [Act.put, List.setIfInBounds_toArray, List.set_cons_zero, List.set_cons_succ]
      refine restS_take (v := ?_) 5 rfl (by kernel_rfl) (by kernel_rfl) (by kernel_rfl) (fun _ _ _ h => h) (by rfl) ?_ ?_
      rotate_left
      · intro w9 h9; try dsimp only at h9
        go_split_ands
        go_simp; try with_reducible rfl
      try simp only [Act.put, List.setIfInBounds_toArray, List.set_cons_zero, List.set_cons_succ]
      refine restS_take (v := ?_) 6 rfl (by kernel_rfl) (by kernel_rfl) (by kernel_rfl) (fun _ _ _ h => h) (by rfl) ?_ ?_
      rotate_left
      · intro w9 h9; try dsimp only at h9
        go_split_ands
        go_simp; try with_reducible rfl
      try simp only [Act.put, List.setIfInBounds_toArray, List.set_cons_zero, List.set_cons_succ]
      refine restS_take (v := ?_) 7 rfl (by kernel_rfl) (by kernel_rfl) (by kernel_rfl) (fun _ _ _ h => h) (by rfl) ?_ ?_
      rotate_left
      · intro w9 h9; try dsimp only at h9
        go_split_ands
        go_simp; try with_reducible rfl
      try simp only [Act.put, List.setIfInBounds_toArray, List.set_cons_zero, List.set_cons_succ]
      refine restS_take (v := ?_) 8 rfl (by kernel_rfl) (by kernel_rfl) (by kernel_rfl) (fun _ _ _ h => h) (by rfl) ?_ ?_
      rotate_left
      · intro w9 h9; try dsimp only at h9
        go_split_ands
        go_simp; try with_reducible rfl
      try simp only [Act.put, List.setIfInBounds_toArray, List.set_cons_zero, List.set_cons_succ]
      refine restS_take (v := ?_) 9 rfl (by kernel_rfl) (by kernel_rfl) (by kernel_rfl) (fun _ _ _ h => h) (by rfl) ?_ ?_
      rotate_left
      · intro w9 h9; try dsimp only at h9
        go_split_ands
        go_simp; try with_reducible rfl
      try simp only [Act.put, List.setIfInBounds_toArray, List.set_cons_zero, List.set_cons_succ]
      refine restS_take (v := ?_) 10 rfl (by kernel_rfl) (by kernel_rfl) (by kernel_rfl) (fun _ _ _ h => h) (by rfl) ?_ ?_
      rotate_left
      · intro w9 h9; try dsimp only at h9
        go_split_ands
        go_simp; try with_reducible rfl
      try simp only [Act.put, List.setIfInBounds_toArray, List.set_cons_zero, List.set_cons_succ]
      refine restS_take (v := ?_) 11 rfl (by kernel_rfl) (by kernel_rfl) (by kernel_rfl) (fun _ _ _ h => h) (by rfl) ?_ ?_
      rotate_left
      · intro w9 h9; try dsimp only at h9
        go_split_ands
        go_simp; try with_reducible rfl
      try simp only [Act.put, List.setIfInBounds_toArray, List.set_cons_zero, List.set_cons_succ]
      refine restS_take (v := ?_) 12 rfl (by kernel_rfl) (by kernel_rfl) (by kernel_rfl) (fun _ _ _ h => h) (by rfl) ?_ ?_
      rotate_left
      · intro w9 h9; try dsimp only at h9
        go_split_ands
        go_simp; try with_reducible rfl
      try simp only [Act.put, List.setIfInBounds_toArray, List.set_cons_zero, List.set_cons_succ]
      refine restS_alone 13 rfl (by kernel_rfl) (by rfl) (fun hS K hK => ?_)
      go_wp2_with fail
      refine hK.out _ _ ⟨(World.cell?_alloc_lt _ _ _ (by simp; omega)).trans ((World.cell?_alloc_lt _ _ _ hbl).trans k1), (World.cell?_alloc_lt _ _ _ (by simp; omega)).trans ((World.cell?_alloc_lt _ _ _ hbl).trans k2), (World.cell?_alloc_lt _ _ _ (by simp; omega)).trans ((World.cell?_alloc_lt _ _ _ hbl).trans k3), (World.cell?_alloc_lt _ _ _ (by simp; omega)).trans ((World.cell?_alloc_lt _ _ _ hbl).trans k4)⟩ ?_
      clear hK K hS
      refine restS_alone 14 rfl (by kernel_rfl) (by rfl) (fun hS K hK => ?_)
      go_wp2_with fail
      refine hK.out _ _ ⟨(World.cell?_alloc_lt _ _ _ (by simp; omega)).trans ((World.cell?_alloc_lt _ _ _ hbl).trans k1), (World.cell?_alloc_lt _ _ _ (by simp; omega)).trans ((World.cell?_alloc_lt _ _ _ hbl).trans k2), (World.cell?_alloc_lt _ _ _ (by simp; omega)).trans ((World.cell?_alloc_lt _ _ _ hbl).trans k3), (World.cell?_alloc_lt _ _ _ (by simp; omega)).trans ((World.cell?_alloc_lt _ _ _ hbl).trans k4)⟩ ?_
      clear hK K hS
      refine restS_done (by kernel_rfl) (fun hS => ?_)
      clear hS
      go_wp2_with (go_at_call 114; refine (c_spec_AckOk _ _ _ _ _).mono ?_; rintro e w1 ⟨rfl, hb⟩; obtain ⟨hc, hf, hsz⟩ := bcell hb; have hz := hb.size; (try simp at hz); have q0 := (((Bx.new w [.int .i64 0, .int .i64 0, .int .i64 0, .int .i64 0] 57).alloc (.cells #[.int .i64 c, .int .i64 q, .int .i64 i, .int .i64 u] 57)).drew.below hb).2; have q1 := ((Bx.new (w.alloc (.cells #[.int .i64 0, .int .i64 0, .int .i64 0, .int .i64 0] 57)) [.int .i64 c, .int .i64 q, .int .i64 i, .int .i64 u] 57).drew.below hb).2; rw [World.size_alloc] at q1; clear hc)
      refine bodyPost_ret (v := .tuple #[.agg #[.int .i64 c, .int .i64 q, .int .i64 i, .int .i64 u], .bool true]) (by simp [results, Try.results66, go_sem, *]) rfl ⟨rfl, ?_⟩
      (repeat (first | with_reducible exact Below.refl _ _ | ((with_reducible refine bl_alloc ?_ ?_); (focus (first | (simp; done) | (simp; omega) | omega))) | ((with_reducible refine bl_set ?_ ?_); (focus (first | (simp; done) | (simp; omega) | omega))) | ((with_reducible refine bl_later ?_ ?_); (focus (first | (simp; done) | (simp; omega) | omega))) | with_reducible refine bl_drew ?_ | with_reducible refine bl_drewN ?_ | ((with_reducible refine bl_step (by assumption) ?_ ?_); (focus (first | (simp; done) | (simp; omega) | omega)))))
theorem c_decoded_Ack_no (b0 off cap : Nat) (c q i u : Int) (w : World) (hh : IntsR w (some ⟨b0, off, none⟩) [2, c, q, i, u]) (hcap : 5 ≤ cap) (hk : (kindOf [2, c, q, i, u] != 2) = false) (hE : (ackOk c q i u) = false) :
    Calls Try.prog 121 #[.slice (some ⟨b0, off, none⟩) 5 cap, .int .i64 2, .int .i64 4, .int .i64 4, .func (Fn.func 122) #[] #[]] w fun e w' => e = .returned (.tuple #[.agg #[.int .i64 0, .int .i64 0, .int .i64 0, .int .i64 0], .bool false]) ∧ Below w.heap.size w w' := by
  have h' : ∀ W, Below w.heap.size w W → IntsR W (some ⟨b0, off, none⟩) [2, c, q, i, u] := fun W hb => hh.below hb
  have hr1 := hh.tail
  have hm := hh.2.1
  have Hr1 := Lib.hid hr1
  have H := Lib.hid hh
  go_enter Try.func121, Try.ntmps121
  go_wp2_with (go_at_call 90; refine (c_impl_KindOf _ _ [2, c, q, i, u] _ (h' _ (by (repeat (first | with_reducible exact Below.refl _ _ | ((with_reducible refine bl_alloc ?_ ?_); (focus (first | (simp; done) | (simp; omega) | omega))) | ((with_reducible refine bl_set ?_ ?_); (focus (first | (simp; done) | (simp; omega) | omega))) | ((with_reducible refine bl_later ?_ ?_); (focus (first | (simp; done) | (simp; omega) | omega))) | with_reducible refine bl_drew ?_ | with_reducible refine bl_drewN ?_ | ((with_reducible refine bl_step (by assumption) ?_ ?_); (focus (first | (simp; done) | (simp; omega) | omega)))))))).mono ?_; rintro e w' ⟨rfl, rfl⟩)
  have Bz := (Bx.new w [.int .i64 0, .int .i64 0, .int .i64 0, .int .i64 0] 57).alloc (.cells #[.int .i64 0, .int .i64 0, .int .i64 0, .int .i64 0] 57)
  have By := Bx.new (w.alloc (.cells #[.int .i64 0, .int .i64 0, .int .i64 0, .int .i64 0] 57)) [.int .i64 0, .int .i64 0, .int .i64 0, .int .i64 0] 57
  rw [World.size_alloc] at By
  have Bf := (Fx.new w [.int .i64 0, .int .i64 0, .int .i64 0, .int .i64 0] 57).alloc (.cells #[.int .i64 0, .int .i64 0, .int .i64 0, .int .i64 0] 57)
  have hbW : Below w.heap.size w ((w.alloc (.cells #[.int .i64 0, .int .i64 0, .int .i64 0, .int .i64 0] 57)).alloc (.cells #[.int .i64 0, .int .i64 0, .int .i64 0, .int .i64 0] 57)) := by (repeat (first | with_reducible exact Below.refl _ _ | ((with_reducible refine bl_alloc ?_ ?_); (focus (first | (simp; done) | (simp; omega) | omega))) | ((with_reducible refine bl_set ?_ ?_); (focus (first | (simp; done) | (simp; omega) | omega))) | ((with_reducible refine bl_later ?_ ?_); (focus (first | (simp; done) | (simp; omega) | omega))) | with_reducible refine bl_drew ?_ | with_reducible refine bl_drewN ?_ | ((with_reducible refine bl_step (by assumption) ?_ ?_); (focus (first | (simp; done) | (simp; omega) | omega)))))
  refine (c_clos_Ack _ _ c q i u _ (hr1.below hbW)).mono ?_
  rintro e w3 ⟨rfl, hb3⟩
  replace Bz := (Bz.below hb3).alloc (.cells #[.int .i64 c, .int .i64 q, .int .i64 i, .int .i64 u] 57) |>.drew
  replace By := (By.below hb3).alloc (.cells #[.int .i64 c, .int .i64 q, .int .i64 i, .int .i64 u] 57) |>.drew
  replace Bf := (Bf.below hb3).alloc (.cells #[.int .i64 c, .int .i64 q, .int .i64 i, .int .i64 u] 57) |>.drew
  have hz3 := hb3.size
  simp only [World.size_alloc] at hz3
  have hb4 : Below w.heap.size w (w3.alloc (.cells #[.int .i64 c, .int .i64 q, .int .i64 i, .int .i64 u] 57)).drew := ((bl_step hb3 (by simp; omega) hbW).alloc (by omega) _).drew
  have Bt := (Bx.new w3 [.int .i64 c, .int .i64 q, .int .i64 i, .int .i64 u] 57).drew
  go_wp2_with fail
  refine restS_begin (fun W => ∀ o, W.cell? ⟨w3.heap.size, o, none⟩ = ([.int .i64 c, .int .i64 q, .int .i64 i, .int .i64 u] : List Value)[o]?) (by kernel_rfl) Bt.2 ?_
  refine restS_take (v := ?_) 0 rfl (by kernel_rfl) (by kernel_rfl) (by kernel_rfl) (fun _ _ _ h => h) (by rfl) ?_ ?_
  rotate_left
  · intro w9 h9; try dsimp only at h9
    go_split_ands
    go_simp; try with_reducible rfl
  try simp only [Act.put, List.setIfInBounds_toArray, List.set_cons_zero, List.set_cons_succ]
  refine restS_take (v := ?_) 1 rfl (by kernel_rfl) (by kernel_rfl) (by kernel_rfl) (fun _ _ _ h => h) (by rfl) ?_ ?_
  rotate_left
  · intro w9 h9; try dsimp only at h9
    go_split_ands
    go_simp; try with_reducible rfl
  try simp only [Act.put, List.setIfInBounds_toArray, List.set_cons_zero, List.set_cons_succ]
  refine restS_alone 2 rfl (by kernel_rfl) (by rfl) (fun hS K hK => ?_)
  go_wp2_with fail
  rw [run_method_direct (f := 205)]
  rotate_left
  · kernel_rfl
  go_wp2_with fail
  refine (c_Ack_valid c q i u _).mono ?_
  rintro e w5 ⟨rfl, hb5⟩
  have Btw5 := Bt.below hb5
  go_wp2_with fail
  refine hK.out _ _ Btw5.2 ?_
  try simp only [Act.put, List.setIfInBounds_toArray, List.set_cons_zero, List.set_cons_succ]
  clear hK K hS
  refine restS_take (v := ?_) 3 rfl (by kernel_rfl) (by kernel_rfl) (by kernel_rfl) (fun _ _ _ h => h) (by rfl) ?_ ?_
  rotate_left
  · intro w9 h9; try dsimp only at h9
    go_split_ands
    go_simp; try with_reducible rfl
  try simp only [Act.put, List.setIfInBounds_toArray, List.set_cons_zero, List.set_cons_succ]
  refine restS_take (v := ?_) 4 rfl (by kernel_rfl) (by kernel_rfl) (by kernel_rfl) (fun _ _ _ h => h) (by rfl) ?_ ?_
  rotate_left
  · intro w9 h9; try dsimp only at h9
    go_split_ands
    go_simp; try with_reducible rfl
  try simp only [Act.put, List.setIfInBounds_toArray, List.set_cons_zero, List.set_cons_succ]
  refine restS_skip 5 rfl (by kernel_rfl) (by kernel_rfl) (by kernel_rfl) (fun _ _ _ h => h) (by rfl) ?_
  try simp only [Act.put, List.setIfInBounds_toArray, List.set_cons_zero, List.set_cons_succ]
  refine restS_skip 6 rfl (by kernel_rfl) (by kernel_rfl) (by kernel_rfl) (fun _ _ _ h => h) (by rfl) ?_
  try simp only [Act.put, List.setIfInBounds_toArray, List.set_cons_zero, List.set_cons_succ]
  refine restS_skip 8 rfl (by kernel_rfl) (by kernel_rfl) (by kernel_rfl) (fun _ _ _ h => h) (by rfl) ?_
  try simp only [Act.put, List.setIfInBounds_toArray, List.set_cons_zero, List.set_cons_succ]
  refine restS_skip 9 rfl (by kernel_rfl) (by kernel_rfl) (by kernel_rfl) (fun _ _ _ h => h) (by rfl) ?_
  try simp only [Act.put, List.setIfInBounds_toArray, List.set_cons_zero, List.set_cons_succ]
  refine restS_skip 7 rfl (by kernel_rfl) (by kernel_rfl) (by kernel_rfl) (fun _ _ _ h => h) (by rfl) ?_
  try simp only [Act.put, List.setIfInBounds_toArray, List.set_cons_zero, List.set_cons_succ]
  refine restS_skip 10 rfl (by kernel_rfl) (by kernel_rfl) (by kernel_rfl) (fun _ _ _ h => h) (by rfl) ?_
  try simp only [Act.put, List.setIfInBounds_toArray, List.set_cons_zero, List.set_cons_succ]
  refine restS_skip 11 rfl (by kernel_rfl) (by kernel_rfl) (by kernel_rfl) (fun _ _ _ h => h) (by rfl) ?_
  try simp only [Act.put, List.setIfInBounds_toArray, List.set_cons_zero, List.set_cons_succ]
  refine restS_take (v := ?_) 12 rfl (by kernel_rfl) (by kernel_rfl) (by kernel_rfl) (fun _ _ _ h => h) (by rfl) ?_ ?_
  rotate_left
  · intro w9 h9; try dsimp only at h9
    go_split_ands
    go_simp; try with_reducible rfl
  try simp only [Act.put, List.setIfInBounds_toArray, List.set_cons_zero, List.set_cons_succ]
  refine restS_done (by kernel_rfl) (fun hS => ?_)
  clear hS
  have q0 := (Bz.below hb5).2
  have q1 := (By.below hb5).2
  have q2 := Btw5.2
  have q3 := (Bf.below hb5).2
  have hz5 := hb5.size
  simp only [World.size_drew, World.size_alloc] at hz5
  have hb6 := bl_step hb5 hb4.size hb4
  go_wp2_with fail
  refine bodyPost_ret (v := .tuple #[.agg #[.int .i64 0, .int .i64 0, .int .i64 0, .int .i64 0], .bool false]) (by simp [results, Try.results121, go_sem, *]) rfl ⟨rfl, ?_⟩
  (repeat (first | with_reducible exact Below.refl _ _ | ((with_reducible refine bl_alloc ?_ ?_); (focus (first | (simp; done) | (simp; omega) | omega))) | ((with_reducible refine bl_set ?_ ?_); (focus (first | (simp; done) | (simp; omega) | omega))) | ((with_reducible refine bl_later ?_ ?_); (focus (first | (simp; done) | (simp; omega) | omega))) | with_reducible refine bl_drew ?_ | with_reducible refine bl_drewN ?_ | ((with_reducible refine bl_step (by assumption) ?_ ?_); (focus (first | (simp; done) | (simp; omega) | omega)))))
theorem c_decoded_Ack_yes (b0 off cap : Nat) (c q i u : Int) (w : World) (hh : IntsR w (some ⟨b0, off, none⟩) [2, c, q, i, u]) (hcap : 5 ≤ cap) (hk : (kindOf [2, c, q, i, u] != 2) = false) (hE : (ackOk c q i u) = true) (yc : inI64 c) (yq : inI64 q) (yi : inI64 i) (yu : inI64 u) :
    Calls Try.prog 121 #[.slice (some ⟨b0, off, none⟩) 5 cap, .int .i64 2, .int .i64 4, .int .i64 4, .func (Fn.func 122) #[] #[]] w fun e w' => e = .returned (.tuple #[.agg #[.int .i64 c, .int .i64 q, .int .i64 i, .int .i64 u], .bool true]) ∧ Below w.heap.size w w' := by
  have h' : ∀ W, Below w.heap.size w W → IntsR W (some ⟨b0, off, none⟩) [2, c, q, i, u] := fun W hb => hh.below hb
  have hr1 := hh.tail
  have hm := hh.2.1
  have Hr1 := Lib.hid hr1
  have H := Lib.hid hh
  go_enter Try.func121, Try.ntmps121
  go_wp2_with (go_at_call 90; refine (c_impl_KindOf _ _ [2, c, q, i, u] _ (h' _ (by (repeat (first | with_reducible exact Below.refl _ _ | ((with_reducible refine bl_alloc ?_ ?_); (focus (first | (simp; done) | (simp; omega) | omega))) | ((with_reducible refine bl_set ?_ ?_); (focus (first | (simp; done) | (simp; omega) | omega))) | ((with_reducible refine bl_later ?_ ?_); (focus (first | (simp; done) | (simp; omega) | omega))) | with_reducible refine bl_drew ?_ | with_reducible refine bl_drewN ?_ | ((with_reducible refine bl_step (by assumption) ?_ ?_); (focus (first | (simp; done) | (simp; omega) | omega)))))))).mono ?_; rintro e w' ⟨rfl, rfl⟩)
  have Bz := (Bx.new w [.int .i64 0, .int .i64 0, .int .i64 0, .int .i64 0] 57).alloc (.cells #[.int .i64 0, .int .i64 0, .int .i64 0, .int .i64 0] 57)
  have By := Bx.new (w.alloc (.cells #[.int .i64 0, .int .i64 0, .int .i64 0, .int .i64 0] 57)) [.int .i64 0, .int .i64 0, .int .i64 0, .int .i64 0] 57
  rw [World.size_alloc] at By
  have Bf := (Fx.new w [.int .i64 0, .int .i64 0, .int .i64 0, .int .i64 0] 57).alloc (.cells #[.int .i64 0, .int .i64 0, .int .i64 0, .int .i64 0] 57)
  have hbW : Below w.heap.size w ((w.alloc (.cells #[.int .i64 0, .int .i64 0, .int .i64 0, .int .i64 0] 57)).alloc (.cells #[.int .i64 0, .int .i64 0, .int .i64 0, .int .i64 0] 57)) := by (repeat (first | with_reducible exact Below.refl _ _ | ((with_reducible refine bl_alloc ?_ ?_); (focus (first | (simp; done) | (simp; omega) | omega))) | ((with_reducible refine bl_set ?_ ?_); (focus (first | (simp; done) | (simp; omega) | omega))) | ((with_reducible refine bl_later ?_ ?_); (focus (first | (simp; done) | (simp; omega) | omega))) | with_reducible refine bl_drew ?_ | with_reducible refine bl_drewN ?_ | ((with_reducible refine bl_step (by assumption) ?_ ?_); (focus (first | (simp; done) | (simp; omega) | omega)))))
  refine (c_clos_Ack _ _ c q i u _ (hr1.below hbW)).mono ?_
  rintro e w3 ⟨rfl, hb3⟩
  replace Bz := (Bz.below hb3).alloc (.cells #[.int .i64 c, .int .i64 q, .int .i64 i, .int .i64 u] 57) |>.drew
  replace By := (By.below hb3).alloc (.cells #[.int .i64 c, .int .i64 q, .int .i64 i, .int .i64 u] 57) |>.drew
  replace Bf := (Bf.below hb3).alloc (.cells #[.int .i64 c, .int .i64 q, .int .i64 i, .int .i64 u] 57) |>.drew
  have hz3 := hb3.size
  simp only [World.size_alloc] at hz3
  have hb4 : Below w.heap.size w (w3.alloc (.cells #[.int .i64 c, .int .i64 q, .int .i64 i, .int .i64 u] 57)).drew := ((bl_step hb3 (by simp; omega) hbW).alloc (by omega) _).drew
  have Bt := (Bx.new w3 [.int .i64 c, .int .i64 q, .int .i64 i, .int .i64 u] 57).drew
  go_wp2_with fail
  refine restS_begin (fun W => ∀ o, W.cell? ⟨w3.heap.size, o, none⟩ = ([.int .i64 c, .int .i64 q, .int .i64 i, .int .i64 u] : List Value)[o]?) (by kernel_rfl) Bt.2 ?_
  refine restS_take (v := ?_) 0 rfl (by kernel_rfl) (by kernel_rfl) (by kernel_rfl) (fun _ _ _ h => h) (by rfl) ?_ ?_
  rotate_left
  · intro w9 h9; try dsimp only at h9
    go_split_ands
    go_simp; try with_reducible rfl
  try simp only [Act.put, List.setIfInBounds_toArray, List.set_cons_zero, List.set_cons_succ]
  refine restS_take (v := ?_) 1 rfl (by kernel_rfl) (by kernel_rfl) (by kernel_rfl) (fun _ _ _ h => h) (by rfl) ?_ ?_
  rotate_left
  · intro w9 h9; try dsimp only at h9
    go_split_ands
    go_simp; try with_reducible rfl
  try simp only [Act.put, List.setIfInBounds_toArray, List.set_cons_zero, List.set_cons_succ]
  refine restS_alone 2 rfl (by kernel_rfl) (by rfl) (fun hS K hK => ?_)
  go_wp2_with fail
  rw [run_method_direct (f := 205)]
  rotate_left
  · kernel_rfl
  go_wp2_with fail
  refine (c_Ack_valid c q i u _).mono ?_
  rintro e w5 ⟨rfl, hb5⟩
  have Btw5 := Bt.below hb5
  go_wp2_with fail
  refine hK.out _ _ Btw5.2 ?_
  try simp only [Act.put, List.setIfInBounds_toArray, List.set_cons_zero, List.set_cons_succ]
  clear hK K hS
  refine restS_take (v := ?_) 3 rfl (by kernel_rfl) (by kernel_rfl) (by kernel_rfl) (fun _ _ _ h => h) (by rfl) ?_ ?_
  rotate_left
  · intro w9 h9; try dsimp only at h9
    go_split_ands
    go_simp; try with_reducible rfl
  try simp only [Act.put, List.setIfInBounds_toArray, List.set_cons_zero, List.set_cons_succ]
  refine restS_take (v := ?_) 4 rfl (by kernel_rfl) (by kernel_rfl) (by kernel_rfl) (fun _ _ _ h => h) (by rfl) ?_ ?_
  rotate_left
  · intro w9 h9; try dsimp only at h9
    go_split_ands
    go_simp; try with_reducible rfl
  try simp only [Act.put, List.setIfInBounds_toArray, List.set_cons_zero, List.set_cons_succ]
  refine restS_take (v := ?_) 5 rfl (by kernel_rfl) (by kernel_rfl) (by kernel_rfl) (fun _ _ _ h => h) (by rfl) ?_ ?_
  rotate_left
  · intro w9 h9; try dsimp only at h9
    go_split_ands
    go_simp; try with_reducible rfl
  try simp only [Act.put, List.setIfInBounds_toArray, List.set_cons_zero, List.set_cons_succ]
  refine restS_take (v := ?_) 6 rfl (by kernel_rfl) (by kernel_rfl) (by kernel_rfl) (fun _ _ _ h => h) (by rfl) ?_ ?_
  rotate_left
  · intro w9 h9; try dsimp only at h9
    go_split_ands
    go_simp; try with_reducible rfl
  try simp only [Act.put, List.setIfInBounds_toArray, List.set_cons_zero, List.set_cons_succ]
  refine restS_take (v := ?_) 8 rfl (by kernel_rfl) (by kernel_rfl) (by kernel_rfl) (fun _ _ _ h => h) (by rfl) ?_ ?_
  rotate_left
  · intro w9 h9; try dsimp only at h9
    go_split_ands
    go_simp; try with_reducible rfl
  try simp only [Act.put, List.setIfInBounds_toArray, List.set_cons_zero, List.set_cons_succ]
  refine restS_take (v := ?_) 9 rfl (by kernel_rfl) (by kernel_rfl) (by kernel_rfl) (fun _ _ _ h => h) (by rfl) ?_ ?_
  rotate_left
  · intro w9 h9; try dsimp only at h9
    go_split_ands
    go_simp; try with_reducible rfl
  try simp only [Act.put, List.setIfInBounds_toArray, List.set_cons_zero, List.set_cons_succ]
  refine restS_alone 7 rfl (by kernel_rfl) (by rfl) (fun hS K hK => ?_)
  go_wp2_with fail
  rw [run_method_direct (f := 204)]
  rotate_left
  · kernel_rfl
  go_wp2_with fail
  refine (c_Ack_fields c q i u _ yc yq yi yu).mono ?_
  rintro e w6 ⟨a6, c6, rfl, ho6, hb6⟩
  have Btw6 := Btw5.below hb6
  go_wp2_with fail
  refine hK.out _ _ Btw6.2 ?_
  try simp only [Act.put, List.setIfInBounds_toArray, List.set_cons_zero, List.set_cons_succ]
  clear hK K hS
  refine restS_alone 10 rfl (by kernel_rfl) (by rfl) (fun hS K hK => ?_)
  go_wp2_with fail
  refine (c_SameRow _ _ _ _ [c, q, i, u] [c, q, i, u] _ ho6.read (((hr1.below hb4).below hb5).below hb6)).mono ?_
  rintro e w7 ⟨rfl, hb7⟩
  have Btw7 := Btw6.below hb7
  go_wp2_with fail
  refine hK.out _ _ Btw7.2 ?_
  try simp only [Act.put, List.setIfInBounds_toArray, List.set_cons_zero, List.set_cons_succ]
  clear hK K hS
  refine restS_take (v := ?_) 11 rfl (by kernel_rfl) (by kernel_rfl) (by kernel_rfl) (fun _ _ _ h => h) (by rfl) ?_ ?_
  rotate_left
  · intro w9 h9; try dsimp only at h9
    go_split_ands
    go_simp; try with_reducible rfl
  try simp only [Act.put, List.setIfInBounds_toArray, List.set_cons_zero, List.set_cons_succ]
  refine restS_take (v := ?_) 12 rfl (by kernel_rfl) (by kernel_rfl) (by kernel_rfl) (fun _ _ _ h => h) (by rfl) ?_ ?_
  rotate_left
  · intro w9 h9; try dsimp only at h9
    go_split_ands
    go_simp; try with_reducible rfl
  try simp only [Act.put, List.setIfInBounds_toArray, List.set_cons_zero, List.set_cons_succ]
  refine restS_done (by kernel_rfl) (fun hS => ?_)
  clear hS
  have q0 := (((Bz.below hb5).below hb6).below hb7).2
  have q1 := (((By.below hb5).below hb6).below hb7).2
  have q2 := Btw7.2
  have q3 := (((Bf.below hb5).below hb6).below hb7).2
  have hz5 := hb5.size
  have hz6 := hb6.size
  have hz7 := hb7.size
  simp only [World.size_drew, World.size_alloc] at hz5
  have hb8 := bl_step hb7 (Nat.le_trans hb4.size (Nat.le_trans hb5.size hb6.size)) (bl_step hb6 (Nat.le_trans hb4.size hb5.size) (bl_step hb5 hb4.size hb4))
  go_wp2_with fail
  refine bodyPost_ret (v := .tuple #[.agg #[.int .i64 c, .int .i64 q, .int .i64 i, .int .i64 u], .bool true]) (by simp [results, Try.results121, go_sem, *]) rfl ⟨rfl, ?_⟩
  (repeat (first | with_reducible exact Below.refl _ _ | ((with_reducible refine bl_alloc ?_ ?_); (focus (first | (simp; done) | (simp; omega) | omega))) | ((with_reducible refine bl_set ?_ ?_); (focus (first | (simp; done) | (simp; omega) | omega))) | ((with_reducible refine bl_later ?_ ?_); (focus (first | (simp; done) | (simp; omega) | omega))) | with_reducible refine bl_drew ?_ | with_reducible refine bl_drewN ?_ | ((with_reducible refine bl_step (by assumption) ?_ ?_); (focus (first | (simp; done) | (simp; omega) | omega)))))

end Go.Proofs.Ytpfkfppooeikeaa
/- Walks of functions of the program, printed by a program of the prover. -/
namespace Go.Proofs.Ytpfkfppooeikeaa
open Go.ChangeShapes Go.WideShapes Go.ChangeAt Go.RowKit Go.Deep
set_option maxHeartbeats 800000
set_option maxRecDepth 100000
theorem c_decoded_Ack_bad (ao : Option Addr) (cap : Nat) (l : List Int) (w : World) (hh : IntsR w ao l) (hk : (kindOf l != 2) = true) :
    Calls Try.prog 121 #[.slice ao l.length cap, .int .i64 2, .int .i64 4, .int .i64 4, .func (Fn.func 122) #[] #[]] w fun e w' => e = .returned (.tuple #[.agg #[.int .i64 0, .int .i64 0, .int .i64 0, .int .i64 0], .bool false]) ∧ Below w.heap.size w w' := by
  have hm := hh.2.1
  have h' : ∀ W, Below w.heap.size w W → IntsR W ao l := fun W hb => hh.below hb
  go_enter Try.func121, Try.ntmps121
  go_wp2_with (go_at_call 90; refine (c_impl_KindOf _ _ l _ (h' _ (by (repeat (first | with_reducible exact Below.refl _ _ | ((with_reducible refine bl_alloc ?_ ?_); (focus (first | (simp; done) | (simp; omega) | omega))) | ((with_reducible refine bl_set ?_ ?_); (focus (first | (simp; done) | (simp; omega) | omega))) | ((with_reducible refine bl_later ?_ ?_); (focus (first | (simp; done) | (simp; omega) | omega))) | with_reducible refine bl_drew ?_ | with_reducible refine bl_drewN ?_ | ((with_reducible refine bl_step (by assumption) ?_ ?_); (focus (first | (simp; done) | (simp; omega) | omega)))))))).mono ?_; rintro e w' ⟨rfl, rfl⟩)
  refine bodyPost_ret (v := .tuple #[.agg #[.int .i64 0, .int .i64 0, .int .i64 0, .int .i64 0], .bool false]) (by simp [results, Try.results121, go_sem, *]) rfl ⟨rfl, ?_⟩
  (repeat (first | with_reducible exact Below.refl _ _ | ((with_reducible refine bl_alloc ?_ ?_); (focus (first | (simp; done) | (simp; omega) | omega))) | ((with_reducible refine bl_set ?_ ?_); (focus (first | (simp; done) | (simp; omega) | omega))) | ((with_reducible refine bl_later ?_ ?_); (focus (first | (simp; done) | (simp; omega) | omega))) | with_reducible refine bl_drew ?_ | with_reducible refine bl_drewN ?_ | ((with_reducible refine bl_step (by assumption) ?_ ?_); (focus (first | (simp; done) | (simp; omega) | omega)))))
theorem c_decoded_Ack_len (ao : Option Addr) (cap : Nat) (l : List Int) (w : World) (hh : IntsR w ao l) (hk : (kindOf l != 2) = false) (h2 : l.length ≠ 5) :
    Calls Try.prog 121 #[.slice ao l.length cap, .int .i64 2, .int .i64 4, .int .i64 4, .func (Fn.func 122) #[] #[]] w fun e w' => e = .returned (.tuple #[.agg #[.int .i64 0, .int .i64 0, .int .i64 0, .int .i64 0], .bool false]) ∧ Below w.heap.size w w' := by
  have hm := hh.2.1
  obtain ⟨hl0, hl1, hd⟩ := kindOf_pos hk (by omega)
  clear hd
  have h' : ∀ W, Below w.heap.size w W → IntsR W ao l := fun W hb => hh.below hb
  by_cases h1 : l.length < 5
  · have e2 : decide ((l.length : Int) - 1 < 4) = true := by simp; omega
    go_enter Try.func121, Try.ntmps121
    go_wp2_with (go_at_call 90; refine (c_impl_KindOf _ _ l _ (h' _ (by (repeat (first | with_reducible exact Below.refl _ _ | ((with_reducible refine bl_alloc ?_ ?_); (focus (first | (simp; done) | (simp; omega) | omega))) | ((with_reducible refine bl_set ?_ ?_); (focus (first | (simp; done) | (simp; omega) | omega))) | ((with_reducible refine bl_later ?_ ?_); (focus (first | (simp; done) | (simp; omega) | omega))) | with_reducible refine bl_drew ?_ | with_reducible refine bl_drewN ?_ | ((with_reducible refine bl_step (by assumption) ?_ ?_); (focus (first | (simp; done) | (simp; omega) | omega)))))))).mono ?_; rintro e w' ⟨rfl, rfl⟩)
    refine bodyPost_ret (v := .tuple #[.agg #[.int .i64 0, .int .i64 0, .int .i64 0, .int .i64 0], .bool false]) (by simp [results, Try.results121, go_sem, *]) rfl ⟨rfl, ?_⟩
    (repeat (first | with_reducible exact Below.refl _ _ | ((with_reducible refine bl_alloc ?_ ?_); (focus (first | (simp; done) | (simp; omega) | omega))) | ((with_reducible refine bl_set ?_ ?_); (focus (first | (simp; done) | (simp; omega) | omega))) | ((with_reducible refine bl_later ?_ ?_); (focus (first | (simp; done) | (simp; omega) | omega))) | with_reducible refine bl_drew ?_ | with_reducible refine bl_drewN ?_ | ((with_reducible refine bl_step (by assumption) ?_ ?_); (focus (first | (simp; done) | (simp; omega) | omega)))))
  · have e2 : decide ((l.length : Int) - 1 < 4) = false := by simp; omega
    have e3 : decide (4 < (l.length : Int) - 1) = true := by simp; omega
    go_enter Try.func121, Try.ntmps121
    go_wp2_with (go_at_call 90; refine (c_impl_KindOf _ _ l _ (h' _ (by (repeat (first | with_reducible exact Below.refl _ _ | ((with_reducible refine bl_alloc ?_ ?_); (focus (first | (simp; done) | (simp; omega) | omega))) | ((with_reducible refine bl_set ?_ ?_); (focus (first | (simp; done) | (simp; omega) | omega))) | ((with_reducible refine bl_later ?_ ?_); (focus (first | (simp; done) | (simp; omega) | omega))) | with_reducible refine bl_drew ?_ | with_reducible refine bl_drewN ?_ | ((with_reducible refine bl_step (by assumption) ?_ ?_); (focus (first | (simp; done) | (simp; omega) | omega)))))))).mono ?_; rintro e w' ⟨rfl, rfl⟩)
    refine bodyPost_ret (v := .tuple #[.agg #[.int .i64 0, .int .i64 0, .int .i64 0, .int .i64 0], .bool false]) (by simp [results, Try.results121, go_sem, *]) rfl ⟨rfl, ?_⟩
    (repeat (first | with_reducible exact Below.refl _ _ | ((with_reducible refine bl_alloc ?_ ?_); (focus (first | (simp; done) | (simp; omega) | omega))) | ((with_reducible refine bl_set ?_ ?_); (focus (first | (simp; done) | (simp; omega) | omega))) | ((with_reducible refine bl_later ?_ ?_); (focus (first | (simp; done) | (simp; omega) | omega))) | with_reducible refine bl_drew ?_ | with_reducible refine bl_drewN ?_ | ((with_reducible refine bl_step (by assumption) ?_ ?_); (focus (first | (simp; done) | (simp; omega) | omega)))))
theorem isAck_len {l : List Int} (h : l.length ≠ 5) : isAck l = false := by simp [isAck, isB, h]
theorem isAck_ne {l : List Int} (h : (kindOf l != 2) = true) : isAck l = false := by
  cases hb : isB l 2 5
  · simp [isAck, hb]
  · obtain ⟨ix, hi1, hi2⟩ := kindOf_ne h (by omega) (by omega) (n := 5) (by omega) hb
    have hl : l.length = 5 := by simp [isB] at hb; exact hb.1
    match l, hl with
    | [x0, c, q, i, u], _ =>
      obtain rfl : x0 = 2 := by simp [isB] at hb; exact hb
      clear h hb
      simp only [numOk, List.length_cons, List.length_nil, Nat.zero_add, Nat.reduceAdd] at hi1 hi2
      have h01 : ix = 0 ∨ ix = 1 ∨ ix = 2 ∨ ix = 3 ∨ ix = 4 := by omega
      cases hx : isAck [2, c, q, i, u]
      · rfl
      · exfalso
        simp [isAck, isB, ackOk, inB] at hx
        rcases h01 with rfl | rfl | rfl | rfl | rfl <;> simp at hi2 <;> (first | omega | (split at hx <;> omega))
theorem partsAck_f {l : List Int} (h : isAck l = false) : partsAck l = [0, 0, 0, 0] := by simp [partsAck, h]
theorem c_decoded_Ack (ao : Option Addr) (cap : Nat) (l : List Int) (w : World) (hh : IntsR w ao l) (hcap : l.length ≤ cap) :
    Calls Try.prog 121 #[.slice ao l.length cap, .int .i64 2, .int .i64 4, .int .i64 4, .func (Fn.func 122) #[] #[]] w fun e w' => e = .returned (.tuple #[.agg ((partsAck l).map (Value.int .i64)).toArray, .bool (isAck l)]) ∧ Below w.heap.size w w' := by
  cases hk : (kindOf l != 2)
  · by_cases h2 : l.length = 5
    · obtain ⟨hl0, hl1, hd⟩ := kindOf_pos hk (by omega)
      obtain ⟨x0, c, q, i, u, rfl⟩ : ∃ x0 c q i u, l = [x0, c, q, i, u] := by
        match l, h2 with | [x0, c, q, i, u], _ => exact ⟨x0, c, q, i, u, rfl⟩
      obtain ⟨b0, off, rfl, hbl, hr0, hc⟩ := hh.at (k := 1) (by simp)
      obtain rfl : x0 = 2 := by simpa using hd
      have hib : isB [2, c, q, i, u] 2 5 = true := rfl
      cases hE : (ackOk c q i u)
      · have e1 : isAck [2, c, q, i, u] = false := by simp only [isAck, hib, Bool.true_and]; exact hE
        rw [partsAck_f e1, e1]
        exact c_decoded_Ack_no b0 off cap c q i u w hh hcap hk hE
      · have e1 : isAck [2, c, q, i, u] = true := by simp only [isAck, hib, Bool.true_and]; exact hE
        have e2 : partsAck [2, c, q, i, u] = [c, q, i, u] := by simp [partsAck, e1]
        rw [e2, e1]
        exact c_decoded_Ack_yes b0 off cap c q i u w hh hcap hk hE (hh.1 _ (by simp)) (hh.1 _ (by simp)) (hh.1 _ (by simp)) (hh.1 _ (by simp))
    · rw [partsAck_f (isAck_len h2), isAck_len h2]
      exact c_decoded_Ack_len ao cap l w hh hk h2
  · rw [partsAck_f (isAck_ne hk), isAck_ne hk]
    exact c_decoded_Ack_bad ao cap l w hh hk
theorem len_partsAck (l : List Int) : ∃ c q i u, partsAck l = [c, q, i, u] := by
  unfold partsAck
  split
  · rename_i h
    have hl : l.length = 5 := by simp [isAck, isB] at h; exact h.1.1
    match l, hl with | [x0, c, q, i, u], _ => exact ⟨c, q, i, u, rfl⟩
  · exact ⟨0, 0, 0, 0, rfl⟩
theorem c_impl_RowAck (ao : Option Addr) (cap : Nat) (l : List Int) (w : World) (hh : IntsR w ao l) (hcap : l.length ≤ cap) :
    Calls Try.prog 67 #[.slice ao l.length cap] w fun e w' => e = .returned (.tuple #[.agg ((partsAck l).map (Value.int .i64)).toArray, .bool (isAck l)]) ∧ Below w.heap.size w w' := by
  have key := c_decoded_Ack ao cap l (w.alloc (.cells #[.int .i64 0, .int .i64 0, .int .i64 0, .int .i64 0] 57)) (hh.below (by (repeat (first | with_reducible exact Below.refl _ _ | ((with_reducible refine bl_alloc ?_ ?_); (focus (first | (simp; done) | (simp; omega) | omega))) | ((with_reducible refine bl_set ?_ ?_); (focus (first | (simp; done) | (simp; omega) | omega))) | ((with_reducible refine bl_later ?_ ?_); (focus (first | (simp; done) | (simp; omega) | omega))) | with_reducible refine bl_drew ?_ | with_reducible refine bl_drewN ?_ | ((with_reducible refine bl_step (by assumption) ?_ ?_); (focus (first | (simp; done) | (simp; omega) | omega))))))) hcap
  obtain ⟨c, q, i, u, hp⟩ := len_partsAck l
  rw [hp] at key ⊢
  simp only [List.map_cons, List.map_nil] at key ⊢
  clear hp
  go_enter Try.func67, Try.ntmps67
  go_wp2_with fail
  refine key.mono ?_
  rintro e w1 ⟨rfl, hb⟩
  have q0 := ((Bx.new w [.int .i64 0, .int .i64 0, .int .i64 0, .int .i64 0] 57).below hb).2
  have q1 := ((Fx.new w [.int .i64 0, .int .i64 0, .int .i64 0, .int .i64 0] 57).below hb).2
  have hz := hb.size
  simp only [World.size_alloc] at hz
  clear key
  go_wp2_with fail
  refine bodyPost_ret (v := .tuple #[.agg #[.int .i64 c, .int .i64 q, .int .i64 i, .int .i64 u], .bool (isAck l)]) (by simp [results, Try.results67, go_sem, *]) rfl ⟨rfl, ?_⟩
  (repeat (first | with_reducible exact Below.refl _ _ | ((with_reducible refine bl_alloc ?_ ?_); (focus (first | (simp; done) | (simp; omega) | omega))) | ((with_reducible refine bl_set ?_ ?_); (focus (first | (simp; done) | (simp; omega) | omega))) | ((with_reducible refine bl_later ?_ ?_); (focus (first | (simp; done) | (simp; omega) | omega))) | with_reducible refine bl_drew ?_ | with_reducible refine bl_drewN ?_ | ((with_reducible refine bl_step (by assumption) ?_ ?_); (focus (first | (simp; done) | (simp; omega) | omega)))))
theorem c_eqAck_same (c q i u : Int) (w : World) : Calls Try.prog 68 #[.agg #[.int .i64 c, .int .i64 q, .int .i64 i, .int .i64 u], .agg #[.int .i64 c, .int .i64 q, .int .i64 i, .int .i64 u]] w fun e w' => e = .returned (.bool true) ∧ Below w.heap.size w w' := by
  go_enter Try.func68, Try.ntmps68
  go_wp2
  go_ret
  exact ⟨rfl, by (repeat (first | with_reducible exact Below.refl _ _ | ((with_reducible refine bl_alloc ?_ ?_); (focus (first | (simp; done) | (simp; omega) | omega))) | ((with_reducible refine bl_set ?_ ?_); (focus (first | (simp; done) | (simp; omega) | omega))) | ((with_reducible refine bl_later ?_ ?_); (focus (first | (simp; done) | (simp; omega) | omega))) | with_reducible refine bl_drew ?_ | with_reducible refine bl_drewN ?_ | ((with_reducible refine bl_step (by assumption) ?_ ?_); (focus (first | (simp; done) | (simp; omega) | omega)))))⟩

end Go.Proofs.Ytpfkfppooeikeaa
/- Walks of functions of the program, printed by a program of the prover. -/
namespace Go.Proofs.Ytpfkfppooeikeaa
open Go.RowKit
set_option maxHeartbeats 1600000
set_option maxRecDepth 100000
theorem c_decoded_Ask_no (b0 off cap : Nat) (c s k a b x y : Int) (w : World) (hh : IntsR w (some ⟨b0, off, none⟩) [1, c, s, k, a, b, x, y]) (hcap : 8 ≤ cap) (hk : (kindOf [1, c, s, k, a, b, x, y] != 1) = false) (hE : (askOk c s k a b x y) = false) :
    Calls Try.prog 127 #[.slice (some ⟨b0, off, none⟩) 8 cap, .int .i64 1, .int .i64 7, .int .i64 7, .func (Fn.func 128) #[] #[]] w fun e w' => e = .returned (.tuple #[.agg #[.int .i64 0, .int .i64 0, .int .i64 0, .int .i64 0, .int .i64 0, .int .i64 0, .int .i64 0], .bool false]) ∧ Below w.heap.size w w' := by
  have h' : ∀ W, Below w.heap.size w W → IntsR W (some ⟨b0, off, none⟩) [1, c, s, k, a, b, x, y] := fun W hb => hh.below hb
  have hr1 := hh.tail
  have hm := hh.2.1
  have Hr1 := Lib.hid hr1
  have H := Lib.hid hh
  go_enter Try.func127, Try.ntmps127
  go_wp2_with (go_at_call 90; refine (c_impl_KindOf _ _ [1, c, s, k, a, b, x, y] _ (h' _ (by (repeat (first | with_reducible exact Below.refl _ _ | ((with_reducible refine bl_alloc ?_ ?_); (focus (first | (simp; done) | (simp; omega) | omega))) | ((with_reducible refine bl_set ?_ ?_); (focus (first | (simp; done) | (simp; omega) | omega))) | ((with_reducible refine bl_later ?_ ?_); (focus (first | (simp; done) | (simp; omega) | omega))) | with_reducible refine bl_drew ?_ | with_reducible refine bl_drewN ?_ | ((with_reducible refine bl_step (by assumption) ?_ ?_); (focus (first | (simp; done) | (simp; omega) | omega)))))))).mono ?_; rintro e w' ⟨rfl, rfl⟩)
  have Bz := (Bx.new w [.int .i64 0, .int .i64 0, .int .i64 0, .int .i64 0, .int .i64 0, .int .i64 0, .int .i64 0] 86).alloc (.cells #[.int .i64 0, .int .i64 0, .int .i64 0, .int .i64 0, .int .i64 0, .int .i64 0, .int .i64 0] 86)
  have By := Bx.new (w.alloc (.cells #[.int .i64 0, .int .i64 0, .int .i64 0, .int .i64 0, .int .i64 0, .int .i64 0, .int .i64 0] 86)) [.int .i64 0, .int .i64 0, .int .i64 0, .int .i64 0, .int .i64 0, .int .i64 0, .int .i64 0] 86
  rw [World.size_alloc] at By
  have Bf := (Fx.new w [.int .i64 0, .int .i64 0, .int .i64 0, .int .i64 0, .int .i64 0, .int .i64 0, .int .i64 0] 86).alloc (.cells #[.int .i64 0, .int .i64 0, .int .i64 0, .int .i64 0, .int .i64 0, .int .i64 0, .int .i64 0] 86)
  have hbW : Below w.heap.size w ((w.alloc (.cells #[.int .i64 0, .int .i64 0, .int .i64 0, .int .i64 0, .int .i64 0, .int .i64 0, .int .i64 0] 86)).alloc (.cells #[.int .i64 0, .int .i64 0, .int .i64 0, .int .i64 0, .int .i64 0, .int .i64 0, .int .i64 0] 86)) := by (repeat (first | with_reducible exact Below.refl _ _ | ((with_reducible refine bl_alloc ?_ ?_); (focus (first | (simp; done) | (simp; omega) | omega))) | ((with_reducible refine bl_set ?_ ?_); (focus (first | (simp; done) | (simp; omega) | omega))) | ((with_reducible refine bl_later ?_ ?_); (focus (first | (simp; done) | (simp; omega) | omega))) | with_reducible refine bl_drew ?_ | with_reducible refine bl_drewN ?_ | ((with_reducible refine bl_step (by assumption) ?_ ?_); (focus (first | (simp; done) | (simp; omega) | omega)))))
  refine (c_clos_Ask _ _ c s k a b x y _ (hr1.below hbW) (by omega)).mono ?_
  rintro e w3 ⟨rfl, hb3⟩
  replace Bz := (Bz.below hb3).alloc (.cells #[.int .i64 c, .int .i64 s, .int .i64 k, .int .i64 a, .int .i64 b, .int .i64 x, .int .i64 y] 86) |>.drew
  replace By := (By.below hb3).alloc (.cells #[.int .i64 c, .int .i64 s, .int .i64 k, .int .i64 a, .int .i64 b, .int .i64 x, .int .i64 y] 86) |>.drew
  replace Bf := (Bf.below hb3).alloc (.cells #[.int .i64 c, .int .i64 s, .int .i64 k, .int .i64 a, .int .i64 b, .int .i64 x, .int .i64 y] 86) |>.drew
  have hz3 := hb3.size
  simp only [World.size_alloc] at hz3
  have hb4 : Below w.heap.size w (w3.alloc (.cells #[.int .i64 c, .int .i64 s, .int .i64 k, .int .i64 a, .int .i64 b, .int .i64 x, .int .i64 y] 86)).drew := ((bl_step hb3 (by simp; omega) hbW).alloc (by omega) _).drew
  have Bt := (Bx.new w3 [.int .i64 c, .int .i64 s, .int .i64 k, .int .i64 a, .int .i64 b, .int .i64 x, .int .i64 y] 86).drew
  go_wp2_with fail
  refine restS_begin (fun W => ∀ o, W.cell? ⟨w3.heap.size, o, none⟩ = ([.int .i64 c, .int .i64 s, .int .i64 k, .int .i64 a, .int .i64 b, .int .i64 x, .int .i64 y] : List Value)[o]?) (by kernel_rfl) Bt.2 ?_
  refine restS_take (v := ?_) 0 rfl (by kernel_rfl) (by kernel_rfl) (by kernel_rfl) (fun _ _ _ h => h) (by rfl) ?_ ?_
  rotate_left
  · intro w9 h9; try dsimp only at h9
    go_split_ands
    go_simp; try with_reducible rfl
  try simp only [Act.put, List.setIfInBounds_toArray, List.set_cons_zero, List.set_cons_succ]
  refine restS_take (v := ?_) 1 rfl (by kernel_rfl) (by kernel_rfl) (by kernel_rfl) (fun _ _ _ h => h) (by rfl) ?_ ?_
  rotate_left
  · intro w9 h9; try dsimp only at h9
    go_split_ands
    go_simp; try with_reducible rfl
  try simp only [Act.put, List.setIfInBounds_toArray, List.set_cons_zero, List.set_cons_succ]
  refine restS_alone 2 rfl (by kernel_rfl) (by rfl) (fun hS K hK => ?_)
  go_wp2_with fail
  rw [run_method_direct (f := 208)]
  rotate_left
  · kernel_rfl
  go_wp2_with fail
  refine (c_Ask_valid c s k a b x y _).mono ?_
  rintro e w5 ⟨rfl, hb5⟩
  have Btw5 := Bt.below hb5
  go_wp2_with fail
  refine hK.out _ _ Btw5.2 ?_
  try simp only [Act.put, List.setIfInBounds_toArray, List.set_cons_zero, List.set_cons_succ]
  clear hK K hS
  refine restS_take (v := ?_) 3 rfl (by kernel_rfl) (by kernel_rfl) (by kernel_rfl) (fun _ _ _ h => h) (by rfl) ?_ ?_
  rotate_left
  · intro w9 h9; try dsimp only at h9
    go_split_ands
    go_simp; try with_reducible rfl
  try simp only [Act.put, List.setIfInBounds_toArray, List.set_cons_zero, List.set_cons_succ]
  refine restS_take (v := ?_) 4 rfl (by kernel_rfl) (by kernel_rfl) (by kernel_rfl) (fun _ _ _ h => h) (by rfl) ?_ ?_
  rotate_left
  · intro w9 h9; try dsimp only at h9
    go_split_ands
    go_simp; try with_reducible rfl
  try simp only [Act.put, List.setIfInBounds_toArray, List.set_cons_zero, List.set_cons_succ]
  refine restS_skip 5 rfl (by kernel_rfl) (by kernel_rfl) (by kernel_rfl) (fun _ _ _ h => h) (by rfl) ?_
  try simp only [Act.put, List.setIfInBounds_toArray, List.set_cons_zero, List.set_cons_succ]
  refine restS_skip 6 rfl (by kernel_rfl) (by kernel_rfl) (by kernel_rfl) (fun _ _ _ h => h) (by rfl) ?_
  try simp only [Act.put, List.setIfInBounds_toArray, List.set_cons_zero, List.set_cons_succ]
  refine restS_skip 8 rfl (by kernel_rfl) (by kernel_rfl) (by kernel_rfl) (fun _ _ _ h => h) (by rfl) ?_
  try simp only [Act.put, List.setIfInBounds_toArray, List.set_cons_zero, List.set_cons_succ]
  refine restS_skip 9 rfl (by kernel_rfl) (by kernel_rfl) (by kernel_rfl) (fun _ _ _ h => h) (by rfl) ?_
  try simp only [Act.put, List.setIfInBounds_toArray, List.set_cons_zero, List.set_cons_succ]
  refine restS_skip 7 rfl (by kernel_rfl) (by kernel_rfl) (by kernel_rfl) (fun _ _ _ h => h) (by rfl) ?_
  try simp only [Act.put, List.setIfInBounds_toArray, List.set_cons_zero, List.set_cons_succ]
  refine restS_skip 10 rfl (by kernel_rfl) (by kernel_rfl) (by kernel_rfl) (fun _ _ _ h => h) (by rfl) ?_
  try simp only [Act.put, List.setIfInBounds_toArray, List.set_cons_zero, List.set_cons_succ]
  refine restS_skip 11 rfl (by kernel_rfl) (by kernel_rfl) (by kernel_rfl) (fun _ _ _ h => h) (by rfl) ?_
  try simp only [Act.put, List.setIfInBounds_toArray, List.set_cons_zero, List.set_cons_succ]
  refine restS_take (v := ?_) 12 rfl (by kernel_rfl) (by kernel_rfl) (by kernel_rfl) (fun _ _ _ h => h) (by rfl) ?_ ?_
  rotate_left
  · intro w9 h9; try dsimp only at h9
    go_split_ands
    go_simp; try with_reducible rfl
  try simp only [Act.put, List.setIfInBounds_toArray, List.set_cons_zero, List.set_cons_succ]
  refine restS_done (by kernel_rfl) (fun hS => ?_)
  clear hS
  have q0 := (Bz.below hb5).2
  have q1 := (By.below hb5).2
  have q2 := Btw5.2
  have q3 := (Bf.below hb5).2
  have hz5 := hb5.size
  simp only [World.size_drew, World.size_alloc] at hz5
  have hb6 := bl_step hb5 hb4.size hb4
  go_wp2_with fail
  refine bodyPost_ret (v := .tuple #[.agg #[.int .i64 0, .int .i64 0, .int .i64 0, .int .i64 0, .int .i64 0, .int .i64 0, .int .i64 0], .bool false]) (by simp [results, Try.results127, go_sem, *]) rfl ⟨rfl, ?_⟩
  (repeat (first | with_reducible exact Below.refl _ _ | ((with_reducible refine bl_alloc ?_ ?_); (focus (first | (simp; done) | (simp; omega) | omega))) | ((with_reducible refine bl_set ?_ ?_); (focus (first | (simp; done) | (simp; omega) | omega))) | ((with_reducible refine bl_later ?_ ?_); (focus (first | (simp; done) | (simp; omega) | omega))) | with_reducible refine bl_drew ?_ | with_reducible refine bl_drewN ?_ | ((with_reducible refine bl_step (by assumption) ?_ ?_); (focus (first | (simp; done) | (simp; omega) | omega)))))
theorem c_decoded_Ask_yes (b0 off cap : Nat) (c s k a b x y : Int) (w : World) (hh : IntsR w (some ⟨b0, off, none⟩) [1, c, s, k, a, b, x, y]) (hcap : 8 ≤ cap) (hk : (kindOf [1, c, s, k, a, b, x, y] != 1) = false) (hE : (askOk c s k a b x y) = true) (yc : inI64 c) (ys : inI64 s) (yk : inI64 k) (ya : inI64 a) (yb : inI64 b) (yx : inI64 x) (yy : inI64 y) :
    Calls Try.prog 127 #[.slice (some ⟨b0, off, none⟩) 8 cap, .int .i64 1, .int .i64 7, .int .i64 7, .func (Fn.func 128) #[] #[]] w fun e w' => e = .returned (.tuple #[.agg #[.int .i64 c, .int .i64 s, .int .i64 k, .int .i64 a, .int .i64 b, .int .i64 x, .int .i64 y], .bool true]) ∧ Below w.heap.size w w' := by
  have h' : ∀ W, Below w.heap.size w W → IntsR W (some ⟨b0, off, none⟩) [1, c, s, k, a, b, x, y] := fun W hb => hh.below hb
  have hr1 := hh.tail
  have hm := hh.2.1
  have Hr1 := Lib.hid hr1
  have H := Lib.hid hh
  go_enter Try.func127, Try.ntmps127
  go_wp2_with (go_at_call 90; refine (c_impl_KindOf _ _ [1, c, s, k, a, b, x, y] _ (h' _ (by (repeat (first | with_reducible exact Below.refl _ _ | ((with_reducible refine bl_alloc ?_ ?_); (focus (first | (simp; done) | (simp; omega) | omega))) | ((with_reducible refine bl_set ?_ ?_); (focus (first | (simp; done) | (simp; omega) | omega))) | ((with_reducible refine bl_later ?_ ?_); (focus (first | (simp; done) | (simp; omega) | omega))) | with_reducible refine bl_drew ?_ | with_reducible refine bl_drewN ?_ | ((with_reducible refine bl_step (by assumption) ?_ ?_); (focus (first | (simp; done) | (simp; omega) | omega)))))))).mono ?_; rintro e w' ⟨rfl, rfl⟩)
  have Bz := (Bx.new w [.int .i64 0, .int .i64 0, .int .i64 0, .int .i64 0, .int .i64 0, .int .i64 0, .int .i64 0] 86).alloc (.cells #[.int .i64 0, .int .i64 0, .int .i64 0, .int .i64 0, .int .i64 0, .int .i64 0, .int .i64 0] 86)
  have By := Bx.new (w.alloc (.cells #[.int .i64 0, .int .i64 0, .int .i64 0, .int .i64 0, .int .i64 0, .int .i64 0, .int .i64 0] 86)) [.int .i64 0, .int .i64 0, .int .i64 0, .int .i64 0, .int .i64 0, .int .i64 0, .int .i64 0] 86
  rw [World.size_alloc] at By
  have Bf := (Fx.new w [.int .i64 0, .int .i64 0, .int .i64 0, .int .i64 0, .int .i64 0, .int .i64 0, .int .i64 0] 86).alloc (.cells #[.int .i64 0, .int .i64 0, .int .i64 0, .int .i64 0, .int .i64 0, .int .i64 0, .int .i64 0] 86)
  have hbW : Below w.heap.size w ((w.alloc (.cells #[.int .i64 0, .int .i64 0, .int .i64 0, .int .i64 0, .int .i64 0, .int .i64 0, .int .i64 0] 86)).alloc (.cells #[.int .i64 0, .int .i64 0, .int .i64 0, .int .i64 0, .int .i64 0, .int .i64 0, .int .i64 0] 86)) := by (repeat (first | with_reducible exact Below.refl _ _ | ((with_reducible refine bl_alloc ?_ ?_); (focus (first | (simp; done) | (simp; omega) | omega))) | ((with_reducible refine bl_set ?_ ?_); (focus (first | (simp; done) | (simp; omega) | omega))) | ((with_reducible refine bl_later ?_ ?_); (focus (first | (simp; done) | (simp; omega) | omega))) | with_reducible refine bl_drew ?_ | with_reducible refine bl_drewN ?_ | ((with_reducible refine bl_step (by assumption) ?_ ?_); (focus (first | (simp; done) | (simp; omega) | omega)))))
  refine (c_clos_Ask _ _ c s k a b x y _ (hr1.below hbW) (by omega)).mono ?_
  rintro e w3 ⟨rfl, hb3⟩
  replace Bz := (Bz.below hb3).alloc (.cells #[.int .i64 c, .int .i64 s, .int .i64 k, .int .i64 a, .int .i64 b, .int .i64 x, .int .i64 y] 86) |>.drew
  replace By := (By.below hb3).alloc (.cells #[.int .i64 c, .int .i64 s, .int .i64 k, .int .i64 a, .int .i64 b, .int .i64 x, .int .i64 y] 86) |>.drew
  replace Bf := (Bf.below hb3).alloc (.cells #[.int .i64 c, .int .i64 s, .int .i64 k, .int .i64 a, .int .i64 b, .int .i64 x, .int .i64 y] 86) |>.drew
  have hz3 := hb3.size
  simp only [World.size_alloc] at hz3
  have hb4 : Below w.heap.size w (w3.alloc (.cells #[.int .i64 c, .int .i64 s, .int .i64 k, .int .i64 a, .int .i64 b, .int .i64 x, .int .i64 y] 86)).drew := ((bl_step hb3 (by simp; omega) hbW).alloc (by omega) _).drew
  have Bt := (Bx.new w3 [.int .i64 c, .int .i64 s, .int .i64 k, .int .i64 a, .int .i64 b, .int .i64 x, .int .i64 y] 86).drew
  go_wp2_with fail
  refine restS_begin (fun W => ∀ o, W.cell? ⟨w3.heap.size, o, none⟩ = ([.int .i64 c, .int .i64 s, .int .i64 k, .int .i64 a, .int .i64 b, .int .i64 x, .int .i64 y] : List Value)[o]?) (by kernel_rfl) Bt.2 ?_
  refine restS_take (v := ?_) 0 rfl (by kernel_rfl) (by kernel_rfl) (by kernel_rfl) (fun _ _ _ h => h) (by rfl) ?_ ?_
  rotate_left
  · intro w9 h9; try dsimp only at h9
    go_split_ands
    go_simp; try with_reducible rfl
  try simp only [Act.put, List.setIfInBounds_toArray, List.set_cons_zero, List.set_cons_succ]
  refine restS_take (v := ?_) 1 rfl (by kernel_rfl) (by kernel_rfl) (by kernel_rfl) (fun _ _ _ h => h) (by rfl) ?_ ?_
  rotate_left
  · intro w9 h9; try dsimp only at h9
    go_split_ands
    go_simp; try with_reducible rfl
  try simp only [Act.put, List.setIfInBounds_toArray, List.set_cons_zero, List.set_cons_succ]
  refine restS_alone 2 rfl (by kernel_rfl) (by rfl) (fun hS K hK => ?_)
  go_wp2_with fail
  rw [run_method_direct (f := 208)]
  rotate_left
  · kernel_rfl
  go_wp2_with fail
  refine (c_Ask_valid c s k a b x y _).mono ?_
  rintro e w5 ⟨rfl, hb5⟩
  have Btw5 := Bt.below hb5
  go_wp2_with fail
  refine hK.out _ _ Btw5.2 ?_
  try simp only [Act.put, List.setIfInBounds_toArray, List.set_cons_zero, List.set_cons_succ]
  clear hK K hS
  refine restS_take (v := ?_) 3 rfl (by kernel_rfl) (by kernel_rfl) (by kernel_rfl) (fun _ _ _ h => h) (by rfl) ?_ ?_
  rotate_left
  · intro w9 h9; try dsimp only at h9
    go_split_ands
    go_simp; try with_reducible rfl
  try simp only [Act.put, List.setIfInBounds_toArray, List.set_cons_zero, List.set_cons_succ]
  refine restS_take (v := ?_) 4 rfl (by kernel_rfl) (by kernel_rfl) (by kernel_rfl) (fun _ _ _ h => h) (by rfl) ?_ ?_
  rotate_left
  · intro w9 h9; try dsimp only at h9
    go_split_ands
    go_simp; try with_reducible rfl
  try simp only [Act.put, List.setIfInBounds_toArray, List.set_cons_zero, List.set_cons_succ]
  refine restS_take (v := ?_) 5 rfl (by kernel_rfl) (by kernel_rfl) (by kernel_rfl) (fun _ _ _ h => h) (by rfl) ?_ ?_
  rotate_left
  · intro w9 h9; try dsimp only at h9
    go_split_ands
    go_simp; try with_reducible rfl
  try simp only [Act.put, List.setIfInBounds_toArray, List.set_cons_zero, List.set_cons_succ]
  refine restS_take (v := ?_) 6 rfl (by kernel_rfl) (by kernel_rfl) (by kernel_rfl) (fun _ _ _ h => h) (by rfl) ?_ ?_
  rotate_left
  · intro w9 h9; try dsimp only at h9
    go_split_ands
    go_simp; try with_reducible rfl
  try simp only [Act.put, List.setIfInBounds_toArray, List.set_cons_zero, List.set_cons_succ]
  refine restS_take (v := ?_) 8 rfl (by kernel_rfl) (by kernel_rfl) (by kernel_rfl) (fun _ _ _ h => h) (by rfl) ?_ ?_
  rotate_left
  · intro w9 h9; try dsimp only at h9
    go_split_ands
    go_simp; try with_reducible rfl
  try simp only [Act.put, List.setIfInBounds_toArray, List.set_cons_zero, List.set_cons_succ]
  refine restS_take (v := ?_) 9 rfl (by kernel_rfl) (by kernel_rfl) (by kernel_rfl) (fun _ _ _ h => h) (by rfl) ?_ ?_
  rotate_left
  · intro w9 h9; try dsimp only at h9
    go_split_ands
    go_simp; try with_reducible rfl
  try simp only [Act.put, List.setIfInBounds_toArray, List.set_cons_zero, List.set_cons_succ]
  refine restS_alone 7 rfl (by kernel_rfl) (by rfl) (fun hS K hK => ?_)
  go_wp2_with fail
  rw [run_method_direct (f := 207)]
  rotate_left
  · kernel_rfl
  go_wp2_with fail
  refine (c_Ask_fields c s k a b x y _ yc ys yk ya yb yx yy).mono ?_
  rintro e w6 ⟨a6, c6, rfl, ho6, hb6⟩
  have Btw6 := Btw5.below hb6
  go_wp2_with fail
  refine hK.out _ _ Btw6.2 ?_
  try simp only [Act.put, List.setIfInBounds_toArray, List.set_cons_zero, List.set_cons_succ]
  clear hK K hS
  refine restS_alone 10 rfl (by kernel_rfl) (by rfl) (fun hS K hK => ?_)
  go_wp2_with fail
  refine (c_SameRow _ _ _ _ [c, s, k, a, b, x, y] [c, s, k, a, b, x, y] _ ho6.read (((hr1.below hb4).below hb5).below hb6)).mono ?_
  rintro e w7 ⟨rfl, hb7⟩
  have Btw7 := Btw6.below hb7
  go_wp2_with fail
  refine hK.out _ _ Btw7.2 ?_
  try simp only [Act.put, List.setIfInBounds_toArray, List.set_cons_zero, List.set_cons_succ]
  clear hK K hS
  refine restS_take (v := ?_) 11 rfl (by kernel_rfl) (by kernel_rfl) (by kernel_rfl) (fun _ _ _ h => h) (by rfl) ?_ ?_
  rotate_left
  · intro w9 h9; try dsimp only at h9
    go_split_ands
    go_simp; try with_reducible rfl
  try simp only [Act.put, List.setIfInBounds_toArray, List.set_cons_zero, List.set_cons_succ]
  refine restS_take (v := ?_) 12 rfl (by kernel_rfl) (by kernel_rfl) (by kernel_rfl) (fun _ _ _ h => h) (by rfl) ?_ ?_
  rotate_left
  · intro w9 h9; try dsimp only at h9
    go_split_ands
    go_simp; try with_reducible rfl
  try simp only [Act.put, List.setIfInBounds_toArray, List.set_cons_zero, List.set_cons_succ]
  refine restS_done (by kernel_rfl) (fun hS => ?_)
  clear hS
  have q0 := (((Bz.below hb5).below hb6).below hb7).2
  have q1 := (((By.below hb5).below hb6).below hb7).2
  have q2 := Btw7.2
  have q3 := (((Bf.below hb5).below hb6).below hb7).2
  have hz5 := hb5.size
  have hz6 := hb6.size
  have hz7 := hb7.size
  simp only [World.size_drew, World.size_alloc] at hz5
  have hb8 := bl_step hb7 (Nat.le_trans hb4.size (Nat.le_trans hb5.size hb6.size)) (bl_step hb6 (Nat.le_trans hb4.size hb5.size) (bl_step hb5 hb4.size hb4))
  go_wp2_with fail
  refine bodyPost_ret (v := .tuple #[.agg #[.int .i64 c, .int .i64 s, .int .i64 k, .int .i64 a, .int .i64 b, .int .i64 x, .int .i64 y], .bool true]) (by simp [results, Try.results127, go_sem, *]) rfl ⟨rfl, ?_⟩
  (repeat (first | with_reducible exact Below.refl _ _ | ((with_reducible refine bl_alloc ?_ ?_); (focus (first | (simp; done) | (simp; omega) | omega))) | ((with_reducible refine bl_set ?_ ?_); (focus (first | (simp; done) | (simp; omega) | omega))) | ((with_reducible refine bl_later ?_ ?_); (focus (first | (simp; done) | (simp; omega) | omega))) | with_reducible refine bl_drew ?_ | with_reducible refine bl_drewN ?_ | ((with_reducible refine bl_step (by assumption) ?_ ?_); (focus (first | (simp; done) | (simp; omega) | omega)))))

end Go.Proofs.Ytpfkfppooeikeaa
/- Walks of functions of the program, printed by a program of the prover. -/
namespace Go.Proofs.Ytpfkfppooeikeaa
open Go.ChangeShapes Go.WideShapes Go.ChangeAt Go.RowKit Go.Deep
set_option maxHeartbeats 800000
set_option maxRecDepth 100000
theorem c_decoded_Ask_bad (ao : Option Addr) (cap : Nat) (l : List Int) (w : World) (hh : IntsR w ao l) (hk : (kindOf l != 1) = true) :
    Calls Try.prog 127 #[.slice ao l.length cap, .int .i64 1, .int .i64 7, .int .i64 7, .func (Fn.func 128) #[] #[]] w fun e w' => e = .returned (.tuple #[.agg #[.int .i64 0, .int .i64 0, .int .i64 0, .int .i64 0, .int .i64 0, .int .i64 0, .int .i64 0], .bool false]) ∧ Below w.heap.size w w' := by
  have hm := hh.2.1
  have h' : ∀ W, Below w.heap.size w W → IntsR W ao l := fun W hb => hh.below hb
  go_enter Try.func127, Try.ntmps127
  go_wp2_with (go_at_call 90; refine (c_impl_KindOf _ _ l _ (h' _ (by (repeat (first | with_reducible exact Below.refl _ _ | ((with_reducible refine bl_alloc ?_ ?_); (focus (first | (simp; done) | (simp; omega) | omega))) | ((with_reducible refine bl_set ?_ ?_); (focus (first | (simp; done) | (simp; omega) | omega))) | ((with_reducible refine bl_later ?_ ?_); (focus (first | (simp; done) | (simp; omega) | omega))) | with_reducible refine bl_drew ?_ | with_reducible refine bl_drewN ?_ | ((with_reducible refine bl_step (by assumption) ?_ ?_); (focus (first | (simp; done) | (simp; omega) | omega)))))))).mono ?_; rintro e w' ⟨rfl, rfl⟩)
  refine bodyPost_ret (v := .tuple #[.agg #[.int .i64 0, .int .i64 0, .int .i64 0, .int .i64 0, .int .i64 0, .int .i64 0, .int .i64 0], .bool false]) (by simp [results, Try.results127, go_sem, *]) rfl ⟨rfl, ?_⟩
  (repeat (first | with_reducible exact Below.refl _ _ | ((with_reducible refine bl_alloc ?_ ?_); (focus (first | (simp; done) | (simp; omega) | omega))) | ((with_reducible refine bl_set ?_ ?_); (focus (first | (simp; done) | (simp; omega) | omega))) | ((with_reducible refine bl_later ?_ ?_); (focus (first | (simp; done) | (simp; omega) | omega))) | with_reducible refine bl_drew ?_ | with_reducible refine bl_drewN ?_ | ((with_reducible refine bl_step (by assumption) ?_ ?_); (focus (first | (simp; done) | (simp; omega) | omega)))))
theorem c_decoded_Ask_len (ao : Option Addr) (cap : Nat) (l : List Int) (w : World) (hh : IntsR w ao l) (hk : (kindOf l != 1) = false) (h2 : l.length ≠ 8) :
    Calls Try.prog 127 #[.slice ao l.length cap, .int .i64 1, .int .i64 7, .int .i64 7, .func (Fn.func 128) #[] #[]] w fun e w' => e = .returned (.tuple #[.agg #[.int .i64 0, .int .i64 0, .int .i64 0, .int .i64 0, .int .i64 0, .int .i64 0, .int .i64 0], .bool false]) ∧ Below w.heap.size w w' := by
  have hm := hh.2.1
  obtain ⟨hl0, hl1, hd⟩ := kindOf_pos hk (by omega)
  clear hd
  have h' : ∀ W, Below w.heap.size w W → IntsR W ao l := fun W hb => hh.below hb
  by_cases h1 : l.length < 8
  · have e2 : decide ((l.length : Int) - 1 < 7) = true := by simp; omega
    go_enter Try.func127, Try.ntmps127
    go_wp2_with (go_at_call 90; refine (c_impl_KindOf _ _ l _ (h' _ (by (repeat (first | with_reducible exact Below.refl _ _ | ((with_reducible refine bl_alloc ?_ ?_); (focus (first | (simp; done) | (simp; omega) | omega))) | ((with_reducible refine bl_set ?_ ?_); (focus (first | (simp; done) | (simp; omega) | omega))) | ((with_reducible refine bl_later ?_ ?_); (focus (first | (simp; done) | (simp; omega) | omega))) | with_reducible refine bl_drew ?_ | with_reducible refine bl_drewN ?_ | ((with_reducible refine bl_step (by assumption) ?_ ?_); (focus (first | (simp; done) | (simp; omega) | omega)))))))).mono ?_; rintro e w' ⟨rfl, rfl⟩)
    refine bodyPost_ret (v := .tuple #[.agg #[.int .i64 0, .int .i64 0, .int .i64 0, .int .i64 0, .int .i64 0, .int .i64 0, .int .i64 0], .bool false]) (by simp [results, Try.results127, go_sem, *]) rfl ⟨rfl, ?_⟩
    (repeat (first | with_reducible exact Below.refl _ _ | ((with_reducible refine bl_alloc ?_ ?_); (focus (first | (simp; done) | (simp; omega) | omega))) | ((with_reducible refine bl_set ?_ ?_); (focus (first | (simp; done) | (simp; omega) | omega))) | ((with_reducible refine bl_later ?_ ?_); (focus (first | (simp; done) | (simp; omega) | omega))) | with_reducible refine bl_drew ?_ | with_reducible refine bl_drewN ?_ | ((with_reducible refine bl_step (by assumption) ?_ ?_); (focus (first | (simp; done) | (simp; omega) | omega)))))
  · have e2 : decide ((l.length : Int) - 1 < 7) = false := by simp; omega
    have e3 : decide (7 < (l.length : Int) - 1) = true := by simp; omega
    go_enter Try.func127, Try.ntmps127
    go_wp2_with (go_at_call 90; refine (c_impl_KindOf _ _ l _ (h' _ (by (repeat (first | with_reducible exact Below.refl _ _ | ((with_reducible refine bl_alloc ?_ ?_); (focus (first | (simp; done) | (simp; omega) | omega))) | ((with_reducible refine bl_set ?_ ?_); (focus (first | (simp; done) | (simp; omega) | omega))) | ((with_reducible refine bl_later ?_ ?_); (focus (first | (simp; done) | (simp; omega) | omega))) | with_reducible refine bl_drew ?_ | with_reducible refine bl_drewN ?_ | ((with_reducible refine bl_step (by assumption) ?_ ?_); (focus (first | (simp; done) | (simp; omega) | omega)))))))).mono ?_; rintro e w' ⟨rfl, rfl⟩)
    refine bodyPost_ret (v := .tuple #[.agg #[.int .i64 0, .int .i64 0, .int .i64 0, .int .i64 0, .int .i64 0, .int .i64 0, .int .i64 0], .bool false]) (by simp [results, Try.results127, go_sem, *]) rfl ⟨rfl, ?_⟩
    (repeat (first | with_reducible exact Below.refl _ _ | ((with_reducible refine bl_alloc ?_ ?_); (focus (first | (simp; done) | (simp; omega) | omega))) | ((with_reducible refine bl_set ?_ ?_); (focus (first | (simp; done) | (simp; omega) | omega))) | ((with_reducible refine bl_later ?_ ?_); (focus (first | (simp; done) | (simp; omega) | omega))) | with_reducible refine bl_drew ?_ | with_reducible refine bl_drewN ?_ | ((with_reducible refine bl_step (by assumption) ?_ ?_); (focus (first | (simp; done) | (simp; omega) | omega)))))
theorem isAsk_len {l : List Int} (h : l.length ≠ 8) : isAsk l = false := by simp [isAsk, isB, h]
theorem isAsk_ne {l : List Int} (h : (kindOf l != 1) = true) : isAsk l = false := by
  cases hb : isB l 1 8
  · simp [isAsk, hb]
  · obtain ⟨ix, hi1, hi2⟩ := kindOf_ne h (by omega) (by omega) (n := 8) (by omega) hb
    have hl : l.length = 8 := by simp [isB] at hb; exact hb.1
    match l, hl with
    | [x0, c, s, k, a, b, x, y], _ =>
      obtain rfl : x0 = 1 := by simp [isB] at hb; exact hb
      clear h hb
      simp only [numOk, List.length_cons, List.length_nil, Nat.zero_add, Nat.reduceAdd] at hi1 hi2
      have h01 : ix = 0 ∨ ix = 1 ∨ ix = 2 ∨ ix = 3 ∨ ix = 4 ∨ ix = 5 ∨ ix = 6 ∨ ix = 7 := by omega
      cases hx : isAsk [1, c, s, k, a, b, x, y]
      · rfl
      · exfalso
        simp [isAsk, isB, askOk, opOk, inB] at hx
        rcases h01 with rfl | rfl | rfl | rfl | rfl | rfl | rfl | rfl <;> simp at hi2 <;> (first | omega | (split at hx <;> (first | omega | (split at hx <;> (first | omega | (split at hx <;> (first | omega | (split at hx <;> (first | omega | (split at hx <;> (first | omega | (split at hx <;> omega))))))))))))
theorem partsAsk_f {l : List Int} (h : isAsk l = false) : partsAsk l = [0, 0, 0, 0, 0, 0, 0] := by simp [partsAsk, h]
theorem c_decoded_Ask (ao : Option Addr) (cap : Nat) (l : List Int) (w : World) (hh : IntsR w ao l) (hcap : l.length ≤ cap) :
    Calls Try.prog 127 #[.slice ao l.length cap, .int .i64 1, .int .i64 7, .int .i64 7, .func (Fn.func 128) #[] #[]] w fun e w' => e = .returned (.tuple #[.agg ((partsAsk l).map (Value.int .i64)).toArray, .bool (isAsk l)]) ∧ Below w.heap.size w w' := by
  cases hk : (kindOf l != 1)
  · by_cases h2 : l.length = 8
    · obtain ⟨hl0, hl1, hd⟩ := kindOf_pos hk (by omega)
      obtain ⟨x0, c, s, k, a, b, x, y, rfl⟩ : ∃ x0 c s k a b x y, l = [x0, c, s, k, a, b, x, y] := by
        match l, h2 with | [x0, c, s, k, a, b, x, y], _ => exact ⟨x0, c, s, k, a, b, x, y, rfl⟩
      obtain ⟨b0, off, rfl, hbl, hr0, hc⟩ := hh.at (k := 1) (by simp)
      obtain rfl : x0 = 1 := by simpa using hd
      have hib : isB [1, c, s, k, a, b, x, y] 1 8 = true := rfl
      cases hE : (askOk c s k a b x y)
      · have e1 : isAsk [1, c, s, k, a, b, x, y] = false := by simp only [isAsk, hib, Bool.true_and]; exact hE
        rw [partsAsk_f e1, e1]
        exact c_decoded_Ask_no b0 off cap c s k a b x y w hh hcap hk hE
      · have e1 : isAsk [1, c, s, k, a, b, x, y] = true := by simp only [isAsk, hib, Bool.true_and]; exact hE
        have e2 : partsAsk [1, c, s, k, a, b, x, y] = [c, s, k, a, b, x, y] := by simp [partsAsk, e1]
        rw [e2, e1]
        exact c_decoded_Ask_yes b0 off cap c s k a b x y w hh hcap hk hE (hh.1 _ (by simp)) (hh.1 _ (by simp)) (hh.1 _ (by simp)) (hh.1 _ (by simp)) (hh.1 _ (by simp)) (hh.1 _ (by simp)) (hh.1 _ (by simp))
    · rw [partsAsk_f (isAsk_len h2), isAsk_len h2]
      exact c_decoded_Ask_len ao cap l w hh hk h2
  · rw [partsAsk_f (isAsk_ne hk), isAsk_ne hk]
    exact c_decoded_Ask_bad ao cap l w hh hk
theorem len_partsAsk (l : List Int) : ∃ c s k a b x y, partsAsk l = [c, s, k, a, b, x, y] := by
  unfold partsAsk
  split
  · rename_i h
    have hl : l.length = 8 := by simp [isAsk, isB] at h; exact h.1.1
    match l, hl with | [x0, c, s, k, a, b, x, y], _ => exact ⟨c, s, k, a, b, x, y, rfl⟩
  · exact ⟨0, 0, 0, 0, 0, 0, 0, rfl⟩
theorem c_impl_RowAsk (ao : Option Addr) (cap : Nat) (l : List Int) (w : World) (hh : IntsR w ao l) (hcap : l.length ≤ cap) :
    Calls Try.prog 73 #[.slice ao l.length cap] w fun e w' => e = .returned (.tuple #[.agg ((partsAsk l).map (Value.int .i64)).toArray, .bool (isAsk l)]) ∧ Below w.heap.size w w' := by
  have key := c_decoded_Ask ao cap l (w.alloc (.cells #[.int .i64 0, .int .i64 0, .int .i64 0, .int .i64 0, .int .i64 0, .int .i64 0, .int .i64 0] 86)) (hh.below (by (repeat (first | with_reducible exact Below.refl _ _ | ((with_reducible refine bl_alloc ?_ ?_); (focus (first | (simp; done) | (simp; omega) | omega))) | ((with_reducible refine bl_set ?_ ?_); (focus (first | (simp; done) | (simp; omega) | omega))) | ((with_reducible refine bl_later ?_ ?_); (focus (first | (simp; done) | (simp; omega) | omega))) | with_reducible refine bl_drew ?_ | with_reducible refine bl_drewN ?_ | ((with_reducible refine bl_step (by assumption) ?_ ?_); (focus (first | (simp; done) | (simp; omega) | omega))))))) hcap
  obtain ⟨c, s, k, a, b, x, y, hp⟩ := len_partsAsk l
  rw [hp] at key ⊢
  simp only [List.map_cons, List.map_nil] at key ⊢
  clear hp
  go_enter Try.func73, Try.ntmps73
  go_wp2_with fail
  refine key.mono ?_
  rintro e w1 ⟨rfl, hb⟩
  have q0 := ((Bx.new w [.int .i64 0, .int .i64 0, .int .i64 0, .int .i64 0, .int .i64 0, .int .i64 0, .int .i64 0] 86).below hb).2
  have q1 := ((Fx.new w [.int .i64 0, .int .i64 0, .int .i64 0, .int .i64 0, .int .i64 0, .int .i64 0, .int .i64 0] 86).below hb).2
  have hz := hb.size
  simp only [World.size_alloc] at hz
  clear key
  go_wp2_with fail
  refine bodyPost_ret (v := .tuple #[.agg #[.int .i64 c, .int .i64 s, .int .i64 k, .int .i64 a, .int .i64 b, .int .i64 x, .int .i64 y], .bool (isAsk l)]) (by simp [results, Try.results73, go_sem, *]) rfl ⟨rfl, ?_⟩
  (repeat (first | with_reducible exact Below.refl _ _ | ((with_reducible refine bl_alloc ?_ ?_); (focus (first | (simp; done) | (simp; omega) | omega))) | ((with_reducible refine bl_set ?_ ?_); (focus (first | (simp; done) | (simp; omega) | omega))) | ((with_reducible refine bl_later ?_ ?_); (focus (first | (simp; done) | (simp; omega) | omega))) | with_reducible refine bl_drew ?_ | with_reducible refine bl_drewN ?_ | ((with_reducible refine bl_step (by assumption) ?_ ?_); (focus (first | (simp; done) | (simp; omega) | omega)))))
theorem c_eqAsk_same (c s k a b x y : Int) (w : World) : Calls Try.prog 74 #[.agg #[.int .i64 c, .int .i64 s, .int .i64 k, .int .i64 a, .int .i64 b, .int .i64 x, .int .i64 y], .agg #[.int .i64 c, .int .i64 s, .int .i64 k, .int .i64 a, .int .i64 b, .int .i64 x, .int .i64 y]] w fun e w' => e = .returned (.bool true) ∧ Below w.heap.size w w' := by
  go_enter Try.func74, Try.ntmps74
  go_wp2
  go_ret
  exact ⟨rfl, by (repeat (first | with_reducible exact Below.refl _ _ | ((with_reducible refine bl_alloc ?_ ?_); (focus (first | (simp; done) | (simp; omega) | omega))) | ((with_reducible refine bl_set ?_ ?_); (focus (first | (simp; done) | (simp; omega) | omega))) | ((with_reducible refine bl_later ?_ ?_); (focus (first | (simp; done) | (simp; omega) | omega))) | with_reducible refine bl_drew ?_ | with_reducible refine bl_drewN ?_ | ((with_reducible refine bl_step (by assumption) ?_ ?_); (focus (first | (simp; done) | (simp; omega) | omega)))))⟩

end Go.Proofs.Ytpfkfppooeikeaa
/- Walks of functions of the program, printed by a program of the prover. -/
namespace Go.Proofs.Ytpfkfppooeikeaa
open Go.RowKit
set_option maxHeartbeats 400000
set_option maxRecDepth 100000
def rowRead (a b c d : Int) : List Int := if inB a 2 5 && inB b 1 2000 && inB c 0 9 && inB d 0 2000 then [6, a, b, c, d] else []
theorem rowRead_t {a b c d : Int} (h9 : (inB a 2 5 && inB b 1 2000 && inB c 0 9 && inB d 0 2000) = true) : rowRead a b c d = [6, a, b, c, d] := by unfold rowRead; rw [h9]; rfl
theorem rowRead_f {a b c d : Int} (h9 : (inB a 2 5 && inB b 1 2000 && inB c 0 9 && inB d 0 2000) = false) : rowRead a b c d = [] := by unfold rowRead; rw [h9]; rfl
theorem c_spec_ReadRow (a b c d : Int) (w : World) (ya : inI64 a) (yb : inI64 b) (yc : inI64 c) (yd : inI64 d) : Calls Try.prog 41 #[.agg #[.int .i64 a, .int .i64 b, .int .i64 c, .int .i64 d]] w (RetI w 2 (rowRead a b c d)) := by
  cases hE : (inB a 2 5 && inB b 1 2000 && inB c 0 9 && inB d 0 2000)
  · rw [rowRead_f hE]
    go_enter Try.func41, Try.ntmps41
    go_wp2_with (first | (go_at_call 105; refine (c_spec_ReadOk _ _ _ _ _).mono ?_; rintro e w1 ⟨rfl, hb⟩; obtain ⟨hc, hf, hsz⟩ := bcell hb; have hz := hb.size; (try simp at hz)))
    go_ret
    exact ⟨_, _, rfl, owns_empty w1 _ _ (by omega), by (repeat (first | with_reducible exact Below.refl _ _ | ((with_reducible refine bl_alloc ?_ ?_); (focus (first | (simp; done) | (simp; omega) | omega))) | ((with_reducible refine bl_set ?_ ?_); (focus (first | (simp; done) | (simp; omega) | omega))) | ((with_reducible refine bl_later ?_ ?_); (focus (first | (simp; done) | (simp; omega) | omega))) | with_reducible refine bl_drew ?_ | with_reducible refine bl_drewN ?_ | ((with_reducible refine bl_step (by assumption) ?_ ?_); (focus (first | (simp; done) | (simp; omega) | omega)))))⟩
  · rw [rowRead_t hE]
    go_enter Try.func41, Try.ntmps41
    go_wp2_with (first | (go_at_call 105; refine (c_spec_ReadOk _ _ _ _ _).mono ?_; rintro e w1 ⟨rfl, hb⟩; obtain ⟨hc, hf, hsz⟩ := bcell hb; have hz := hb.size; (try simp at hz)))
    go_ret
    exact ⟨_, _, rfl, owns_lit w1 _ _ [6, a, b, c, d] (by omega) (by simp) (by have k9 : inI64 6 := (by simp [inI64]); simp [k9, ya, yb, yc, yd]), by (repeat (first | with_reducible exact Below.refl _ _ | ((with_reducible refine bl_alloc ?_ ?_); (focus (first | (simp; done) | (simp; omega) | omega))) | ((with_reducible refine bl_set ?_ ?_); (focus (first | (simp; done) | (simp; omega) | omega))) | ((with_reducible refine bl_later ?_ ?_); (focus (first | (simp; done) | (simp; omega) | omega))) | with_reducible refine bl_drew ?_ | with_reducible refine bl_drewN ?_ | ((with_reducible refine bl_step (by assumption) ?_ ?_); (focus (first | (simp; done) | (simp; omega) | omega)))))⟩
theorem c_kindOf_Read (a b c d : Int) (w : World) : Calls Try.prog 149 #[.iface 34 (.agg #[.int .i64 a, .int .i64 b, .int .i64 c, .int .i64 d])] w fun e w' => e = .returned (.int .i64 6) ∧ w = w' := by
  have n_Ask := ta_Ask 34 (by decide)
  have n_Ack := ta_Ack 34 (by decide)
  have n_fetch := ta_fetch 34 (by decide)
  have n_Feed := ta_Feed 34 (by decide)
  have n_trim := ta_trim 34 (by decide)
  have yes := @ta_yes Try.prog 34 179 _ Try.underlying34 rfl
  go_enter Try.func149, Try.ntmps149
  go_wp2
  go_ret
  exact ⟨rfl, rfl⟩
theorem c_Read_valid (a b c d : Int) (w : World) : Calls Try.prog 194 #[.agg #[.int .i64 a, .int .i64 b, .int .i64 c, .int .i64 d]] w fun e w' => e = .returned (.bool (inB a 2 5 && inB b 1 2000 && inB c 0 9 && inB d 0 2000)) ∧ Below w.heap.size w w' := by
  go_enter Try.func194, Try.ntmps194
  go_wp2_with (first | (go_at_call 195; refine (c_impl_ReadOk _ _ _ _ _).mono ?_; rintro e w1 ⟨rfl, hb⟩; obtain ⟨hc, hf, hsz⟩ := bcell hb; have hz := hb.size; (try simp at hz)))
  go_ret
  exact ⟨rfl, by (repeat (first | with_reducible exact Below.refl _ _ | ((with_reducible refine bl_alloc ?_ ?_); (focus (first | (simp; done) | (simp; omega) | omega))) | ((with_reducible refine bl_set ?_ ?_); (focus (first | (simp; done) | (simp; omega) | omega))) | ((with_reducible refine bl_later ?_ ?_); (focus (first | (simp; done) | (simp; omega) | omega))) | with_reducible refine bl_drew ?_ | with_reducible refine bl_drewN ?_ | ((with_reducible refine bl_step (by assumption) ?_ ?_); (focus (first | (simp; done) | (simp; omega) | omega)))))⟩
theorem c_Read_fields (a b c d : Int) (w : World) (ya : inI64 a) (yb : inI64 b) (yc : inI64 c) (yd : inI64 d) : Calls Try.prog 193 #[.agg #[.int .i64 a, .int .i64 b, .int .i64 c, .int .i64 d]] w (RetI w 2 [a, b, c, d]) := by
  go_enter Try.func193, Try.ntmps193
  go_wp2
  go_ret
  have h9 := owns_lit (w.alloc (.cells ([.int .i64 a, .int .i64 b, .int .i64 c, .int .i64 d] : List Value).toArray 34)) w.heap.size 2 [a, b, c, d] (by simp) (by simp) (by simp [ya, yb, yc, yd])
  rw [World.size_alloc] at h9
  exact ⟨_, _, rfl, h9, by (repeat (first | with_reducible exact Below.refl _ _ | ((with_reducible refine bl_alloc ?_ ?_); (focus (first | (simp; done) | (simp; omega) | omega))) | ((with_reducible refine bl_set ?_ ?_); (focus (first | (simp; done) | (simp; omega) | omega))) | ((with_reducible refine bl_later ?_ ?_); (focus (first | (simp; done) | (simp; omega) | omega))) | with_reducible refine bl_drew ?_ | with_reducible refine bl_drewN ?_ | ((with_reducible refine bl_step (by assumption) ?_ ?_); (focus (first | (simp; done) | (simp; omega) | omega)))))⟩
theorem c_encoded_Read (a b c d : Int) (w : World) (ya : inI64 a) (yb : inI64 b) (yc : inI64 c) (yd : inI64 d) : Calls Try.prog 97 #[.iface 34 (.agg #[.int .i64 a, .int .i64 b, .int .i64 c, .int .i64 d])] w (RetI w 2 (rowRead a b c d)) := by
  obtain ⟨i0, hi, hz0, hz1, hz2⟩ := info_parts info_int64
  cases hE : (inB a 2 5 && inB b 1 2000 && inB c 0 9 && inB d 0 2000)
  all_goals
    go_enter Try.func97, Try.ntmps97
    go_wp2_with fail
    rw [run_method_direct (f := 194)]
    rotate_left
    · kernel_rfl
    go_wp2_with fail
    refine (c_Read_valid _ _ _ _ _).mono ?_
    rintro e w1 ⟨rfl, hb1⟩
    have hs1 := hb1.size
    rw [hE]
    go_wp2_with fail
  · rw [rowRead_f hE]
    go_ret
    exact ⟨_, _, rfl, owns_nil w1 _ _, hb1⟩
  · refine (c_kindOf_Read _ _ _ _ _).mono ?_
    rintro e w1 ⟨rfl, rfl⟩
    go_wp2_with fail
    rw [run_method_direct (f := 193)]
    rotate_left
    · kernel_rfl
    go_wp2_with fail
    refine (c_Read_fields _ _ _ _ _ ya yb yc yd).mono ?_
    rintro e w2 ⟨a2, c2, rfl, ho2, hb2⟩
    have ho1 := (owns_lit w1 w.heap.size 2 [6] hs1 (by simp) (by simp [inI64]))
    have Ho1 : Hid (IntsO w2 w.heap.size 2 (.slice (some ⟨w1.heap.size, 0, none⟩) [(6 : Int)].length 1) [6]) := ⟨ho1.1, ho1.2.1, owns_below ho1.2.2 hb2⟩
    have Ho2 := Lib.hid ho2.read
    have hz := hb2.size
    clear ho1 ho2
    go_wp2_with (at_builtin; refine wpList_append_ints rfl _ _ _ rfl w.heap.size 2 i0 Try.underlying22 hi hz0 hz1 hz2 _ _ _ _ [6] [a, b, c, d] rfl Ho1.out rfl Ho2.out (by simp) (by simp at hz; omega) (fun a3 c3 w3 ho3 hg3 => ?_))
    go_ret
    rw [rowRead_t hE]
    exact ⟨a3, c3, rfl, ho3, (bl_step hb2 (by simp; omega) (by (repeat (first | with_reducible exact Below.refl _ _ | ((with_reducible refine bl_alloc ?_ ?_); (focus (first | (simp; done) | (simp; omega) | omega))) | ((with_reducible refine bl_set ?_ ?_); (focus (first | (simp; done) | (simp; omega) | omega))) | ((with_reducible refine bl_later ?_ ?_); (focus (first | (simp; done) | (simp; omega) | omega))) | with_reducible refine bl_drew ?_ | with_reducible refine bl_drewN ?_ | ((with_reducible refine bl_step (by assumption) ?_ ?_); (focus (first | (simp; done) | (simp; omega) | omega))))))).grown hg3 (by simp at hz; omega) (by simp [Value.ownBlock]; omega)⟩
theorem c_impl_ReadRow (a b c d : Int) (w : World) (ya : inI64 a) (yb : inI64 b) (yc : inI64 c) (yd : inI64 d) : Calls Try.prog 43 #[.agg #[.int .i64 a, .int .i64 b, .int .i64 c, .int .i64 d]] w (RetI w 2 (rowRead a b c d)) := by
  go_enter Try.func43, Try.ntmps43
  go_wp2_with fail
  refine (c_encoded_Read _ _ _ _ _ ya yb yc yd).mono ?_
  rintro e w1 ⟨a1, c1, rfl, ho1, hb1⟩
  go_wp2_with fail
  go_ret
  exact ⟨a1, c1, rfl, ho1.lower (by simp), bl_step hb1 (by simp) (by (repeat (first | with_reducible exact Below.refl _ _ | ((with_reducible refine bl_alloc ?_ ?_); (focus (first | (simp; done) | (simp; omega) | omega))) | ((with_reducible refine bl_set ?_ ?_); (focus (first | (simp; done) | (simp; omega) | omega))) | ((with_reducible refine bl_later ?_ ?_); (focus (first | (simp; done) | (simp; omega) | omega))) | with_reducible refine bl_drew ?_ | with_reducible refine bl_drewN ?_ | ((with_reducible refine bl_step (by assumption) ?_ ?_); (focus (first | (simp; done) | (simp; omega) | omega))))))⟩
theorem c_law_ReadRow (a b c d : Int) (w : World) (ya : inI64 a) (yb : inI64 b) (yc : inI64 c) (yd : inI64 d) : Calls Try.prog 9 #[.agg #[.int .i64 a, .int .i64 b, .int .i64 c, .int .i64 d]] w fun e w' => e = .returned (.bool true) ∧ Below w.heap.size w w' := by
  have hL : (rowRead a b c d).length ≤ 1000 := by unfold rowRead; split <;> simp
  go_enter Try.func9, Try.ntmps9
  go_wp2_with fail
  have Bt := Bx.new w [.int .i64 a, .int .i64 b, .int .i64 c, .int .i64 d] 32
  have hb0 : Below w.heap.size w (w.alloc (.cells ([.int .i64 a, .int .i64 b, .int .i64 c, .int .i64 d] : List Value).toArray 32)) := by (repeat (first | with_reducible exact Below.refl _ _ | ((with_reducible refine bl_alloc ?_ ?_); (focus (first | (simp; done) | (simp; omega) | omega))) | ((with_reducible refine bl_set ?_ ?_); (focus (first | (simp; done) | (simp; omega) | omega))) | ((with_reducible refine bl_later ?_ ?_); (focus (first | (simp; done) | (simp; omega) | omega))) | with_reducible refine bl_drew ?_ | with_reducible refine bl_drewN ?_ | ((with_reducible refine bl_step (by assumption) ?_ ?_); (focus (first | (simp; done) | (simp; omega) | omega)))))
  refine (c_laws_toRead _ _ _ _ _).mono ?_
  rintro e w1 ⟨rfl, hb1⟩
  replace Bt := Bt.below hb1
  replace hb0 := bl_step hb1 hb0.size hb0
  clear hb1
  go_wp2_with fail
  refine (c_spec_ReadRow _ _ _ _ _ ya yb yc yd).mono ?_
  rintro e w2 ⟨a2, c2, rfl, ho2, hb2⟩
  have hbt := Bt.1
  have hlt2 := ho2.2.2.lt
  have hs0 := hb0.size
  have hs2 := hb2.size
  replace Bt := Bt.below hb2
  replace hb0 := bl_step hb2 hb0.size hb0
  clear hb2
  have hcell := Bt.2
  go_wp2_with fail
  refine (c_laws_toRead _ _ _ _ _).mono ?_
  rintro e w3 ⟨rfl, hb3⟩
  have hs3 := hb3.size
  replace Bt := Bt.below hb3
  replace hb0 := bl_step hb3 hb0.size hb0
  replace ho2 := ho2.below hb3
  clear hb3 hcell
  go_wp2_with fail
  refine (c_impl_ReadRow _ _ _ _ _ ya yb yc yd).mono ?_
  rintro e w4 ⟨a4, c4, rfl, ho4, hb4⟩
  have hlt4 := ho4.2.2.lt
  have hs4 := hb4.size
  replace Bt := Bt.below hb4
  replace hb0 := bl_step hb4 hb0.size hb0
  replace ho2 := ho2.below hb4
  clear hb4
  go_wp2_with fail
  refine (c_eqInt64S _ _ _ _ _ _ _ ho4.read ho2.read).mono ?_
  rintro e w5 ⟨rfl, hb5⟩
  have hs5 := hb5.size
  replace Bt := Bt.below hb5
  replace hb0 := bl_step hb5 hb0.size hb0
  replace ho2 := ho2.below hb5
  replace ho4 := ho4.below hb5
  clear hb5
  go_wp2_with fail
  refine (c_laws_markInt64S _ _ _ _ _ _ ho4 (by omega) (by omega) (by omega)).mono ?_
  rintro e w6 ⟨rfl, ho6, hg6, hz6⟩
  replace ho2 := ho2.kept (B := w3.heap.size) (fun k hk => Nat.lt_of_lt_of_le (hlt2 k hk).2 hs3) (fun k hk => (hlt4 k hk).1) hg6
  replace hb0 := hb0.grown hg6 hb0.size (fun k hk => Nat.le_trans (Nat.le_trans hs0 (Nat.le_trans hs2 hs3)) (hlt4 k hk).1)
  replace Bt := Bt.grown hg6 (fun e => by have := (hlt4 _ e).1; omega)
  clear ho4 hg6
  have Hz6 := Lib.hid hz6
  clear hz6
  have hcell := Bt.2
  go_wp2_with fail
  refine (c_laws_heldInt64S _ _ _ _ _ (read_seqI ho6) (by omega) (by omega) (by omega)).mono ?_
  rintro e w6 ⟨rfl, rfl⟩
  go_wp2_with fail
  refine (c_laws_toRead _ _ _ _ _).mono ?_
  rintro e w7 ⟨rfl, hb7⟩
  replace hb0 := bl_step hb7 hb0.size hb0
  replace ho2 := ho2.below hb7
  replace ho6 := ho6.below hb7
  clear hb7 hcell
  go_wp2_with fail
  refine (c_impl_ReadRow _ _ _ _ _ ya yb yc yd).mono ?_
  rintro e w8 ⟨a8, c8, rfl, ho8, hb8⟩
  replace hb0 := bl_step hb8 hb0.size hb0
  replace ho2 := ho2.below hb8
  replace ho6 := ho6.below hb8
  clear hb8
  go_wp2_with fail
  refine (c_eqInt64S _ _ _ _ _ _ _ ho8.read ho2.read).mono ?_
  rintro e w9 ⟨rfl, hb9⟩
  replace hb0 := bl_step hb9 hb0.size hb0
  replace ho6 := ho6.below hb9
  clear hb9
  go_wp2_with fail
  refine (c_laws_heldInt64S _ _ _ _ _ (read_seqI ho6) (by omega) (by omega) (by omega)).mono ?_
  rintro e w9 ⟨rfl, rfl⟩
  go_wp2_with fail
  go_ret
  exact ⟨rfl, hb0⟩

end Go.Proofs.Ytpfkfppooeikeaa
