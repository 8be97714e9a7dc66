/- Walks of functions of the program, printed by a program of the prover. -/
import Derived.Test.YtpfkfppooeikeaaFeedV
import Derived.Test.YtpfkfppooeikeaaRowOne
import Derived.WalkKit
import Derived.WalkSpells
import Derived.Deep.QuietTactic
import Derived.BigQuiet
import Derived.Deep.Light
import Derived.Lib.Hide
import Derived.Deep.RegionHeld3
namespace Go.Proofs.Ytpfkfppooeikeaa
open Go.ChangeShapes Go.WideShapes Go.ChangeAt Go.RowKit Go.Deep
set_option maxHeartbeats 1600000
set_option maxRecDepth 100000
theorem c_decoded_Feed_bad (ao : Option Addr) (cap : Nat) (l : List Int) (w : World) (hh : IntsR w ao l) (_hcap : l.length ≤ cap) (hk : (kindOf l != 4) = true) : Calls Try.prog 140 #[.slice ao l.length cap, .int .i64 4, .int .i64 2, .int .i64 29, .func (Fn.func 141) #[] #[]] w (RetRowFeed w l) := by
  have hm := hh.2.1
  have Hj := Lib.hid (isFeed_ne hk)
  have h' : ∀ W, Below w.heap.size w W → IntsR W ao l := fun W hb => hh.below hb
  go_enter Try.func140, Try.ntmps140
  go_wp2_with (go_at_call 90; refine (c_impl_KindOf _ _ l _ (h' _ (by (repeat (first | with_reducible exact Below.refl _ _ | ((with_reducible refine bl_alloc ?_ ?_); (focus (first | (simp; done) | (simp; omega) | omega))) | ((with_reducible refine bl_set ?_ ?_); (focus (first | (simp; done) | (simp; omega) | omega))) | ((with_reducible refine bl_later ?_ ?_); (focus (first | (simp; done) | (simp; omega) | omega))) | with_reducible refine bl_drew ?_ | with_reducible refine bl_drewN ?_ | ((with_reducible refine bl_step (by assumption) ?_ ?_); (focus (first | (simp; done) | (simp; omega) | omega)))))))).mono ?_; rintro e w' ⟨rfl, rfl⟩)
  have hj := Hj.out
  refine bodyPost_ret (v := .tuple #[.agg #[.int .i64 0, .int .i64 0, .slice none 0 0], .bool false]) (by simp [results, Try.results140, go_sem, *]) rfl (retRowFeed_no hj ?_)
  (repeat (first | with_reducible exact Below.refl _ _ | ((with_reducible refine bl_alloc ?_ ?_); (focus (first | (simp; done) | (simp; omega) | omega))) | ((with_reducible refine bl_set ?_ ?_); (focus (first | (simp; done) | (simp; omega) | omega))) | ((with_reducible refine bl_later ?_ ?_); (focus (first | (simp; done) | (simp; omega) | omega))) | with_reducible refine bl_drew ?_ | with_reducible refine bl_drewN ?_ | ((with_reducible refine bl_step (by assumption) ?_ ?_); (focus (first | (simp; done) | (simp; omega) | omega)))))
theorem c_decoded_Feed_len (ao : Option Addr) (cap : Nat) (l : List Int) (w : World) (hh : IntsR w ao l) (_hcap : l.length ≤ cap) (hk : (kindOf l != 4) = false) (h2 : l.length < 3 ∨ 30 < l.length) : Calls Try.prog 140 #[.slice ao l.length cap, .int .i64 4, .int .i64 2, .int .i64 29, .func (Fn.func 141) #[] #[]] w (RetRowFeed w l) := by
  have hm := hh.2.1
  have Hj : Hid (isFeed l = false) := by
    rcases h2 with h2 | h2
    · exact isFeed_short h2
    · exact isFeed_long h2
  obtain ⟨hl0, hl1, hd⟩ := kindOf_pos hk (by omega)
  clear hd
  have h' : ∀ W, Below w.heap.size w W → IntsR W ao l := fun W hb => hh.below hb
  by_cases h1 : l.length < 3
  · have e2 : decide ((l.length : Int) - 1 < 2) = true := by simp; omega
    go_enter Try.func140, Try.ntmps140
    go_wp2_with (go_at_call 90; refine (c_impl_KindOf _ _ l _ (h' _ (by (repeat (first | with_reducible exact Below.refl _ _ | ((with_reducible refine bl_alloc ?_ ?_); (focus (first | (simp; done) | (simp; omega) | omega))) | ((with_reducible refine bl_set ?_ ?_); (focus (first | (simp; done) | (simp; omega) | omega))) | ((with_reducible refine bl_later ?_ ?_); (focus (first | (simp; done) | (simp; omega) | omega))) | with_reducible refine bl_drew ?_ | with_reducible refine bl_drewN ?_ | ((with_reducible refine bl_step (by assumption) ?_ ?_); (focus (first | (simp; done) | (simp; omega) | omega)))))))).mono ?_; rintro e w' ⟨rfl, rfl⟩)
    have hj := Hj.out
    refine bodyPost_ret (v := .tuple #[.agg #[.int .i64 0, .int .i64 0, .slice none 0 0], .bool false]) (by simp [results, Try.results140, go_sem, *]) rfl (retRowFeed_no hj ?_)
    (repeat (first | with_reducible exact Below.refl _ _ | ((with_reducible refine bl_alloc ?_ ?_); (focus (first | (simp; done) | (simp; omega) | omega))) | ((with_reducible refine bl_set ?_ ?_); (focus (first | (simp; done) | (simp; omega) | omega))) | ((with_reducible refine bl_later ?_ ?_); (focus (first | (simp; done) | (simp; omega) | omega))) | with_reducible refine bl_drew ?_ | with_reducible refine bl_drewN ?_ | ((with_reducible refine bl_step (by assumption) ?_ ?_); (focus (first | (simp; done) | (simp; omega) | omega)))))
  · have e2 : decide ((l.length : Int) - 1 < 2) = false := by simp; omega
    have e3 : decide ((29 : Int) < (l.length : Int) - 1) = true := by simp; omega
    go_enter Try.func140, Try.ntmps140
    go_wp2_with (go_at_call 90; refine (c_impl_KindOf _ _ l _ (h' _ (by (repeat (first | with_reducible exact Below.refl _ _ | ((with_reducible refine bl_alloc ?_ ?_); (focus (first | (simp; done) | (simp; omega) | omega))) | ((with_reducible refine bl_set ?_ ?_); (focus (first | (simp; done) | (simp; omega) | omega))) | ((with_reducible refine bl_later ?_ ?_); (focus (first | (simp; done) | (simp; omega) | omega))) | with_reducible refine bl_drew ?_ | with_reducible refine bl_drewN ?_ | ((with_reducible refine bl_step (by assumption) ?_ ?_); (focus (first | (simp; done) | (simp; omega) | omega)))))))).mono ?_; rintro e w' ⟨rfl, rfl⟩)
    have hj := Hj.out
    refine bodyPost_ret (v := .tuple #[.agg #[.int .i64 0, .int .i64 0, .slice none 0 0], .bool false]) (by simp [results, Try.results140, go_sem, *]) rfl (retRowFeed_no hj ?_)
    (repeat (first | with_reducible exact Below.refl _ _ | ((with_reducible refine bl_alloc ?_ ?_); (focus (first | (simp; done) | (simp; omega) | omega))) | ((with_reducible refine bl_set ?_ ?_); (focus (first | (simp; done) | (simp; omega) | omega))) | ((with_reducible refine bl_later ?_ ?_); (focus (first | (simp; done) | (simp; omega) | omega))) | with_reducible refine bl_drew ?_ | with_reducible refine bl_drewN ?_ | ((with_reducible refine bl_step (by assumption) ?_ ?_); (focus (first | (simp; done) | (simp; omega) | omega)))))
theorem c_decoded_Feed_good (ao : Option Addr) (cap : Nat) (l : List Int) (p0 p1 : Int) (r : List Int) (w : World) (hh : IntsR w ao l) (hcap : l.length ≤ cap) (Hl : Hid (l = 4 :: p0 :: p1 :: r)) (hk : (kindOf l != 4) = false) (h6 : 3 ≤ l.length) (h22 : l.length ≤ 30) : Calls Try.prog 140 #[.slice ao l.length cap, .int .i64 4, .int .i64 2, .int .i64 29, .func (Fn.func 141) #[] #[]] w (RetRowFeed w l) := by
  have hm := hh.2.1
  obtain ⟨i0, hi, hz0, hz1, hz2⟩ := info_parts info_int64
  have hlen : Hid (l.length = 3 + r.length) := by show l.length = _; rw [Hl.out]; simp; omega
  have hlr : r.length ≤ 27 := by have := hlen.out; omega
  have h' : ∀ W, Below w.heap.size w W → IntsR W ao l := fun W hb => hh.below hb
  obtain ⟨ao3, hsl, hR3⟩ := slice_low (P := Try.prog) (t := 22) Try.underlying22 hi hz1 cap 1 hh (by omega) hcap
  have e9 : l.drop 1 = p0 :: p1 :: r := by rw [Hl.out]; rfl
  rw [e9] at hR3
  have hsl2 : ∀ W, (Instr.slice 22 (.slice ao l.length cap) (some (.int .i64 1)) none none).run Try.prog W = .ok (.slice ao3 (l.length - 1) (cap - 1)) W := hsl
  have hln : l.length - 1 = (p0 :: p1 :: r).length := by have h7 := hlen.out; simp only [List.length_cons]; omega
  have e2 : decide ((l.length : Int) - 1 < 2) = false := by simp; omega
  have e3 : decide ((29 : Int) < (l.length : Int) - 1) = false := by simp; omega
  have HR3 := Lib.hid hR3
  clear hR3 hsl e9
  rw [hln] at hsl2
  clear hln
  have hsd0 : (chunk9 r).length ≤ 1000 := by rw [len_chunk r.length r (by omega)]; omega
  have hOkE : feedOk p0 p1 ((chunk9 r).map entFix) = feedOk p0 p1 (chunk9 r) := feedOk_fix _ _ _
  obtain ⟨L, hL⟩ : ∃ L, L = (chunk9 r).map entFix := ⟨_, rfl⟩
  have hsd : L.length ≤ 1000 := by rw [hL, List.length_map]; exact hsd0
  have KC : Hid (∀ W, IntsR W ao3 (p0 :: p1 :: r) → Calls Try.prog 141 #[.slice ao3 (p0 :: p1 :: r).length (cap - 1)] W (RetFeed W p0 p1 L)) := fun W hW => by
    rw [hL]
    exact c_clos_Feed _ _ _ p0 p1 r _ hW (by simp) (by have h7 := hlen.out; omega) (by omega)
  rw [← hL] at hOkE
  cases hE : feedOk p0 p1 (chunk9 r)
  · rw [hE] at hOkE
    have hj : isFeed l = false := by rw [Hl.out]; simp [isFeed, hE]
    have Hj := Lib.hid hj
    clear hj hE hL
    go_enter Try.func140, Try.ntmps140
    go_wp2_with (go_at_call 90; refine (c_impl_KindOf _ _ l _ (h' _ (by (repeat (first | with_reducible exact Below.refl _ _ | ((with_reducible refine bl_alloc ?_ ?_); (focus (first | (simp; done) | (simp; omega) | omega))) | ((with_reducible refine bl_set ?_ ?_); (focus (first | (simp; done) | (simp; omega) | omega))) | ((with_reducible refine bl_later ?_ ?_); (focus (first | (simp; done) | (simp; omega) | omega))) | with_reducible refine bl_drew ?_ | with_reducible refine bl_drewN ?_ | ((with_reducible refine bl_step (by assumption) ?_ ?_); (focus (first | (simp; done) | (simp; omega) | omega)))))))).mono ?_; rintro e w' ⟨rfl, rfl⟩)
    go_wp2_with fail
    have hbW : Below w.heap.size w ((w.alloc (.cells ([.int .i64 0, .int .i64 0, .slice none 0 0] : List Value).toArray 44)).alloc (.cells ([.int .i64 0, .int .i64 0, .slice none 0 0] : List Value).toArray 44)) := by (repeat (first | with_reducible exact Below.refl _ _ | ((with_reducible refine bl_alloc ?_ ?_); (focus (first | (simp; done) | (simp; omega) | omega))) | ((with_reducible refine bl_set ?_ ?_); (focus (first | (simp; done) | (simp; omega) | omega))) | ((with_reducible refine bl_later ?_ ?_); (focus (first | (simp; done) | (simp; omega) | omega))) | with_reducible refine bl_drew ?_ | with_reducible refine bl_drewN ?_ | ((with_reducible refine bl_step (by assumption) ?_ ?_); (focus (first | (simp; done) | (simp; omega) | omega)))))
    have Bz := (Bx.new w [.int .i64 0, .int .i64 0, .slice none 0 0] 44).alloc (.cells ([.int .i64 0, .int .i64 0, .slice none 0 0] : List Value).toArray 44)
    have By := Bx.new (w.alloc (.cells ([.int .i64 0, .int .i64 0, .slice none 0 0] : List Value).toArray 44)) [.int .i64 0, .int .i64 0, .slice none 0 0] 44
    rw [World.size_alloc] at By
    have Fz := (Fx.new w [.int .i64 0, .int .i64 0, .slice none 0 0] 44).alloc (.cells ([.int .i64 0, .int .i64 0, .slice none 0 0] : List Value).toArray 44)
    have hR := HR3.out
    refine (KC.out _ (hR.below hbW)).mono ?_
    rintro e w3 ⟨a3, c3, rfl, hOw, hb3⟩
    simp only [World.size_alloc] at hOw
    replace Bz := (Bz.below hb3).alloc (.cells ([.int .i64 p0, .int .i64 p1, .slice a3 L.length c3] : List Value).toArray 44) |>.drew
    replace By := (By.below hb3).alloc (.cells ([.int .i64 p0, .int .i64 p1, .slice a3 L.length c3] : List Value).toArray 44) |>.drew
    replace Fz := (Fz.below hb3).alloc (.cells ([.int .i64 p0, .int .i64 p1, .slice a3 L.length c3] : List Value).toArray 44) |>.drew
    have hb4 : Below w.heap.size w w3 := bl_step hb3 hbW.size hbW
    replace hOw := (hOw.below ((Below.refl _ _).alloc (Nat.le_refl _) (.cells ([.int .i64 p0, .int .i64 p1, .slice a3 L.length c3] : List Value).toArray 44))).below (Below.refl _ _).drew
    have Bt := Bx.new w3 [.int .i64 p0, .int .i64 p1, .slice a3 L.length c3] 44
    have hz3 := hb3.size
    simp only [World.size_alloc] at hz3
    clear hb3
    go_wp2_with fail
    refine restS_begin (SB w w3.heap.size [.int .i64 p0, .int .i64 p1, .slice a3 L.length c3]) (by kernel_rfl) (SB.start (hb4.alloc hb4.size _) Bt) ?_
    refine restS_take (v := ?_) 0 rfl (by kernel_rfl) (by kernel_rfl) (by kernel_rfl) (fun _ _ _ h => h) (by rfl) ?_ ?_
    rotate_left
    · intro w9 h9; obtain ⟨h8, h9⟩ := h9; obtain ⟨x9, rfl⟩ := later_of h8; replace h9 := h9.2; clear h8
      go_simp; try with_reducible rfl
    try simp only [Act.put, List.setIfInBounds_toArray, List.set_cons_zero, List.set_cons_succ]
    refine restS_take (v := ?_) 1 rfl (by kernel_rfl) (by kernel_rfl) (by kernel_rfl) (fun _ _ _ h => h) (by rfl) ?_ ?_
    rotate_left
    · intro w9 h9; try dsimp only at h9
      go_split_ands
      go_simp; try with_reducible rfl
    try simp only [Act.put, List.setIfInBounds_toArray, List.set_cons_zero, List.set_cons_succ]
    refine restS_alone 2 rfl (by kernel_rfl) (by rfl) (fun hS K hK => ?_)
    go_wp2_with fail
    rw [run_method_direct (f := 197)]
    rotate_left
    · kernel_rfl
    go_wp2_with fail
    refine (c_Feed_valid _ _ _ _ _ _ hOw.read).mono ?_
    rintro e w5 ⟨rfl, hb5⟩
    go_wp2_with fail
    have hS2 := SB.step hS hb5
    replace Bz := Bz.below hb5
    replace By := By.below hb5
    replace Fz := Fz.below hb5
    replace hOw := hOw.below hb5
    clear hb5
    refine hK.out _ _ hS2 ?_
    try simp only [Act.put, List.setIfInBounds_toArray, List.set_cons_zero, List.set_cons_succ]
    clear hK K hS hS2
    refine restS_take (v := ?_) 3 rfl (by kernel_rfl) (by kernel_rfl) (by kernel_rfl) (fun _ _ _ h => h) (by rfl) ?_ ?_
    rotate_left
    · intro w9 h9; try dsimp only at h9
      go_split_ands
      go_simp; try with_reducible rfl
    try simp only [Act.put, List.setIfInBounds_toArray, List.set_cons_zero, List.set_cons_succ]
    refine restS_take (v := ?_) 4 rfl (by kernel_rfl) (by kernel_rfl) (by kernel_rfl) (fun _ _ _ h => h) (by rfl) ?_ ?_
    rotate_left
    · intro w9 h9; try dsimp only at h9
      go_split_ands
      go_simp; try with_reducible rfl
    try simp only [Act.put, List.setIfInBounds_toArray, List.set_cons_zero, List.set_cons_succ]
    refine restS_skip 5 rfl (by kernel_rfl) (by kernel_rfl) (by kernel_rfl) (fun _ _ _ h => h) (by rfl) ?_
    try simp only [Act.put, List.setIfInBounds_toArray, List.set_cons_zero, List.set_cons_succ]
    refine restS_skip 6 rfl (by kernel_rfl) (by kernel_rfl) (by kernel_rfl) (fun _ _ _ h => h) (by rfl) ?_
    try simp only [Act.put, List.setIfInBounds_toArray, List.set_cons_zero, List.set_cons_succ]
    refine restS_skip 7 rfl (by kernel_rfl) (by kernel_rfl) (by kernel_rfl) (fun _ _ _ h => h) (by rfl) ?_
    try simp only [Act.put, List.setIfInBounds_toArray, List.set_cons_zero, List.set_cons_succ]
    refine restS_skip 8 rfl (by kernel_rfl) (by kernel_rfl) (by kernel_rfl) (fun _ _ _ h => h) (by rfl) ?_
    try simp only [Act.put, List.setIfInBounds_toArray, List.set_cons_zero, List.set_cons_succ]
    refine restS_skip 9 rfl (by kernel_rfl) (by kernel_rfl) (by kernel_rfl) (fun _ _ _ h => h) (by rfl) ?_
    try simp only [Act.put, List.setIfInBounds_toArray, List.set_cons_zero, List.set_cons_succ]
    refine restS_skip 10 rfl (by kernel_rfl) (by kernel_rfl) (by kernel_rfl) (fun _ _ _ h => h) (by rfl) ?_
    try simp only [Act.put, List.setIfInBounds_toArray, List.set_cons_zero, List.set_cons_succ]
    refine restS_skip 11 rfl (by kernel_rfl) (by kernel_rfl) (by kernel_rfl) (fun _ _ _ h => h) (by rfl) ?_
    try simp only [Act.put, List.setIfInBounds_toArray, List.set_cons_zero, List.set_cons_succ]
    refine restS_take (v := ?_) 12 rfl (by kernel_rfl) (by kernel_rfl) (by kernel_rfl) (fun _ _ _ h => h) (by rfl) ?_ ?_
    rotate_left
    · intro w9 h9; try dsimp only at h9
      go_split_ands
      go_simp; try with_reducible rfl
    try simp only [Act.put, List.setIfInBounds_toArray, List.set_cons_zero, List.set_cons_succ]
    refine restS_done (by kernel_rfl) (fun hS => ?_)
    have hj := Hj.out
    have q0 := Bz.2
    have q1 := By.2
    have q2 := hS.2.2
    have q3 := Fz.2
    have hbB := hS.1
    clear hS
    go_wp2_with fail
    refine bodyPost_ret (v := .tuple #[.agg #[.int .i64 0, .int .i64 0, .slice none 0 0], .bool false]) (by simp [results, Try.results140, go_sem, *]) rfl (retRowFeed_no hj ?_)
    (repeat (first | with_reducible exact Below.refl _ _ | ((with_reducible refine bl_alloc ?_ ?_); (focus (first | (simp; done) | (simp; omega) | omega))) | ((with_reducible refine bl_set ?_ ?_); (focus (first | (simp; done) | (simp; omega) | omega))) | ((with_reducible refine bl_later ?_ ?_); (focus (first | (simp; done) | (simp; omega) | omega))) | with_reducible refine bl_drew ?_ | with_reducible refine bl_drewN ?_ | ((with_reducible refine bl_step (by assumption) ?_ ?_); (focus (first | (simp; done) | (simp; omega) | omega)))))
  · rw [hE] at hOkE
    have HL : Hid (L = chunk9 r) := by show L = _; rw [hL]; exact map_fix (feedOk_all hE)
    have hsame : (fieldsFeed p0 p1 L == p0 :: p1 :: r) = decide (r.length % 9 = 0) := by rw [HL.out]; exact feed_fields_eq
    clear hL
    cases hev : decide (r.length % 9 = 0)
    · rw [hev] at hsame
      have Hj : Hid (isFeed l = false) := by show isFeed l = _; rw [Hl.out]; simp only [isFeed, hev]; simp
      go_enter Try.func140, Try.ntmps140
      go_wp2_with (go_at_call 90; refine (c_impl_KindOf _ _ l _ (h' _ (by (repeat (first | with_reducible exact Below.refl _ _ | ((with_reducible refine bl_alloc ?_ ?_); (focus (first | (simp; done) | (simp; omega) | omega))) | ((with_reducible refine bl_set ?_ ?_); (focus (first | (simp; done) | (simp; omega) | omega))) | ((with_reducible refine bl_later ?_ ?_); (focus (first | (simp; done) | (simp; omega) | omega))) | with_reducible refine bl_drew ?_ | with_reducible refine bl_drewN ?_ | ((with_reducible refine bl_step (by assumption) ?_ ?_); (focus (first | (simp; done) | (simp; omega) | omega)))))))).mono ?_; rintro e w' ⟨rfl, rfl⟩)
      go_wp2_with fail
      have hbW : Below w.heap.size w ((w.alloc (.cells ([.int .i64 0, .int .i64 0, .slice none 0 0] : List Value).toArray 44)).alloc (.cells ([.int .i64 0, .int .i64 0, .slice none 0 0] : List Value).toArray 44)) := by (repeat (first | with_reducible exact Below.refl _ _ | ((with_reducible refine bl_alloc ?_ ?_); (focus (first | (simp; done) | (simp; omega) | omega))) | ((with_reducible refine bl_set ?_ ?_); (focus (first | (simp; done) | (simp; omega) | omega))) | ((with_reducible refine bl_later ?_ ?_); (focus (first | (simp; done) | (simp; omega) | omega))) | with_reducible refine bl_drew ?_ | with_reducible refine bl_drewN ?_ | ((with_reducible refine bl_step (by assumption) ?_ ?_); (focus (first | (simp; done) | (simp; omega) | omega)))))
      have Bz := (Bx.new w [.int .i64 0, .int .i64 0, .slice none 0 0] 44).alloc (.cells ([.int .i64 0, .int .i64 0, .slice none 0 0] : List Value).toArray 44)
      have By := Bx.new (w.alloc (.cells ([.int .i64 0, .int .i64 0, .slice none 0 0] : List Value).toArray 44)) [.int .i64 0, .int .i64 0, .slice none 0 0] 44
      rw [World.size_alloc] at By
      have Fz := (Fx.new w [.int .i64 0, .int .i64 0, .slice none 0 0] 44).alloc (.cells ([.int .i64 0, .int .i64 0, .slice none 0 0] : List Value).toArray 44)
      have hR := HR3.out
      refine (KC.out _ (hR.below hbW)).mono ?_
      rintro e w3 ⟨a3, c3, rfl, hOw, hb3⟩
      simp only [World.size_alloc] at hOw
      replace Bz := (Bz.below hb3).alloc (.cells ([.int .i64 p0, .int .i64 p1, .slice a3 L.length c3] : List Value).toArray 44) |>.drew
      replace By := (By.below hb3).alloc (.cells ([.int .i64 p0, .int .i64 p1, .slice a3 L.length c3] : List Value).toArray 44) |>.drew
      replace Fz := (Fz.below hb3).alloc (.cells ([.int .i64 p0, .int .i64 p1, .slice a3 L.length c3] : List Value).toArray 44) |>.drew
      have hb4 : Below w.heap.size w w3 := bl_step hb3 hbW.size hbW
      replace hOw := (hOw.below ((Below.refl _ _).alloc (Nat.le_refl _) (.cells ([.int .i64 p0, .int .i64 p1, .slice a3 L.length c3] : List Value).toArray 44))).below (Below.refl _ _).drew
      have Bt := Bx.new w3 [.int .i64 p0, .int .i64 p1, .slice a3 L.length c3] 44
      have hz3 := hb3.size
      simp only [World.size_alloc] at hz3
      clear hb3
      go_wp2_with fail
      refine restS_begin (SB w w3.heap.size [.int .i64 p0, .int .i64 p1, .slice a3 L.length c3]) (by kernel_rfl) (SB.start (hb4.alloc hb4.size _) Bt) ?_
      refine restS_take (v := ?_) 0 rfl (by kernel_rfl) (by kernel_rfl) (by kernel_rfl) (fun _ _ _ h => h) (by rfl) ?_ ?_
      rotate_left
      · intro w9 h9; obtain ⟨h8, h9⟩ := h9; obtain ⟨x9, rfl⟩ := later_of h8; replace h9 := h9.2; clear h8
        go_simp; try with_reducible rfl
      try simp only [Act.put, List.setIfInBounds_toArray, List.set_cons_zero, List.set_cons_succ]
      refine restS_take (v := ?_) 1 rfl (by kernel_rfl) (by kernel_rfl) (by kernel_rfl) (fun _ _ _ h => h) (by rfl) ?_ ?_
      rotate_left
      · intro w9 h9; try dsimp only at h9
        go_split_ands
        go_simp; try with_reducible rfl
      try simp only [Act.put, List.setIfInBounds_toArray, List.set_cons_zero, List.set_cons_succ]
      refine restS_alone 2 rfl (by kernel_rfl) (by rfl) (fun hS K hK => ?_)
      go_wp2_with fail
      rw [run_method_direct (f := 197)]
      rotate_left
      · kernel_rfl
      go_wp2_with fail
      refine (c_Feed_valid _ _ _ _ _ _ hOw.read).mono ?_
      rintro e w5 ⟨rfl, hb5⟩
      go_wp2_with fail
      have hS2 := SB.step hS hb5
      replace Bz := Bz.below hb5
      replace By := By.below hb5
      replace Fz := Fz.below hb5
      replace hOw := hOw.below hb5
      clear hb5
      refine hK.out _ _ hS2 ?_
      try simp only [Act.put, List.setIfInBounds_toArray, List.set_cons_zero, List.set_cons_succ]
      clear hK K hS hS2
      refine restS_take (v := ?_) 3 rfl (by kernel_rfl) (by kernel_rfl) (by kernel_rfl) (fun _ _ _ h => h) (by rfl) ?_ ?_
      rotate_left
      · intro w9 h9; try dsimp only at h9
        go_split_ands
        go_simp; try with_reducible rfl
      try simp only [Act.put, List.setIfInBounds_toArray, List.set_cons_zero, List.set_cons_succ]
      refine restS_take (v := ?_) 4 rfl (by kernel_rfl) (by kernel_rfl) (by kernel_rfl) (fun _ _ _ h => h) (by rfl) ?_ ?_
      rotate_left
      · intro w9 h9; try dsimp only at h9
        go_split_ands
        go_simp; try with_reducible rfl
      try simp only [Act.put, List.setIfInBounds_toArray, List.set_cons_zero, List.set_cons_succ]
      refine restS_take (v := ?_) 5 rfl (by kernel_rfl) (by kernel_rfl) (by kernel_rfl) (fun _ _ _ h => h) (by rfl) ?_ ?_
      rotate_left
      · intro w9 h9; obtain ⟨h8, h9⟩ := h9; obtain ⟨x9, rfl⟩ := later_of h8; replace h9 := h9.2; clear h8
        go_simp; try with_reducible rfl
      try simp only [Act.put, List.setIfInBounds_toArray, List.set_cons_zero, List.set_cons_succ]
      refine restS_take (v := ?_) 6 rfl (by kernel_rfl) (by kernel_rfl) (by kernel_rfl) (fun _ _ _ h => h) (by rfl) ?_ ?_
      rotate_left
      · intro w9 h9; try dsimp only at h9
        go_split_ands
        go_simp; try with_reducible rfl
      try simp only [Act.put, List.setIfInBounds_toArray, List.set_cons_zero, List.set_cons_succ]
      refine restS_take (v := ?_) 8 rfl (by kernel_rfl) (by kernel_rfl) (by kernel_rfl) (fun _ _ _ h => h) (by rfl) ?_ ?_
      rotate_left
      · intro w9 h9; try dsimp only at h9
        go_split_ands
        go_simp; try with_reducible rfl
      try simp only [Act.put, List.setIfInBounds_toArray, List.set_cons_zero, List.set_cons_succ]
      refine restS_take (v := ?_) 9 rfl (by kernel_rfl) (by kernel_rfl) (by kernel_rfl) (fun _ _ _ h => h) (by rfl) ?_ ?_
      rotate_left
      · intro w9 h9; try dsimp only at h9
        go_split_ands
        go_simp; try with_reducible rfl
      try simp only [Act.put, List.setIfInBounds_toArray, List.set_cons_zero, List.set_cons_succ]
      refine restS_alone 7 rfl (by kernel_rfl) (by rfl) (fun hS K hK => ?_)
      go_wp2_with fail
      rw [run_method_direct (f := 196)]
      rotate_left
      · kernel_rfl
      go_wp2_with fail
      refine (c_Feed_fields _ _ _ _ _ _ (hR.1 _ (by simp)) (hR.1 _ (by simp)) hOw.read hsd).mono ?_
      rintro e w6 ⟨a6, c6, rfl, ho6, hb6⟩
      go_wp2_with fail
      have hS2 := SB.step hS hb6
      replace Bz := Bz.below hb6
      replace By := By.below hb6
      replace Fz := Fz.below hb6
      replace hOw := hOw.below hb6
      clear hb6
      refine hK.out _ _ hS2 ?_
      try simp only [Act.put, List.setIfInBounds_toArray, List.set_cons_zero, List.set_cons_succ]
      clear hK K hS hS2
      refine restS_alone 10 rfl (by kernel_rfl) (by rfl) (fun hS K hK => ?_)
      go_wp2_with fail
      refine (c_SameRow _ _ _ _ (fieldsFeed p0 p1 L) (p0 :: p1 :: r) _ ho6.read (hR.below hS.1)).mono ?_
      rintro e w7 ⟨rfl, hb7⟩
      rw [hsame]
      go_wp2_with fail
      have hS2 := SB.step hS hb7
      replace Bz := Bz.below hb7
      replace By := By.below hb7
      replace Fz := Fz.below hb7
      replace hOw := hOw.below hb7
      clear hb7
      refine hK.out _ _ hS2 ?_
      try simp only [Act.put, List.setIfInBounds_toArray, List.set_cons_zero, List.set_cons_succ]
      clear hK K hS hS2
      refine restS_take (v := ?_) 11 rfl (by kernel_rfl) (by kernel_rfl) (by kernel_rfl) (fun _ _ _ h => h) (by rfl) ?_ ?_
      rotate_left
      · intro w9 h9; try dsimp only at h9
        go_split_ands
        go_simp; try with_reducible rfl
      try simp only [Act.put, List.setIfInBounds_toArray, List.set_cons_zero, List.set_cons_succ]
      refine restS_take (v := ?_) 12 rfl (by kernel_rfl) (by kernel_rfl) (by kernel_rfl) (fun _ _ _ h => h) (by rfl) ?_ ?_
      rotate_left
      · intro w9 h9; try dsimp only at h9
        go_split_ands
        go_simp; try with_reducible rfl
      try simp only [Act.put, List.setIfInBounds_toArray, List.set_cons_zero, List.set_cons_succ]
      refine restS_done (by kernel_rfl) (fun hS => ?_)
      have hj := Hj.out
      have q0 := Bz.2
      have q1 := By.2
      have q2 := hS.2.2
      have q3 := Fz.2
      have hbB := hS.1
      clear hS
      go_wp2_with fail
      refine bodyPost_ret (v := .tuple #[.agg #[.int .i64 0, .int .i64 0, .slice none 0 0], .bool false]) (by simp [results, Try.results140, go_sem, *]) rfl (retRowFeed_no hj ?_)
      (repeat (first | with_reducible exact Below.refl _ _ | ((with_reducible refine bl_alloc ?_ ?_); (focus (first | (simp; done) | (simp; omega) | omega))) | ((with_reducible refine bl_set ?_ ?_); (focus (first | (simp; done) | (simp; omega) | omega))) | ((with_reducible refine bl_later ?_ ?_); (focus (first | (simp; done) | (simp; omega) | omega))) | with_reducible refine bl_drew ?_ | with_reducible refine bl_drewN ?_ | ((with_reducible refine bl_step (by assumption) ?_ ?_); (focus (first | (simp; done) | (simp; omega) | omega)))))
    · rw [hev] at hsame
      have Hj : Hid (isFeed (4 :: p0 :: p1 :: r) = true) := by show isFeed _ = _; simp only [isFeed, hev, hE]; simp [hlr]
      go_enter Try.func140, Try.ntmps140
      go_wp2_with (go_at_call 90; refine (c_impl_KindOf _ _ l _ (h' _ (by (repeat (first | with_reducible exact Below.refl _ _ | ((with_reducible refine bl_alloc ?_ ?_); (focus (first | (simp; done) | (simp; omega) | omega))) | ((with_reducible refine bl_set ?_ ?_); (focus (first | (simp; done) | (simp; omega) | omega))) | ((with_reducible refine bl_later ?_ ?_); (focus (first | (simp; done) | (simp; omega) | omega))) | with_reducible refine bl_drew ?_ | with_reducible refine bl_drewN ?_ | ((with_reducible refine bl_step (by assumption) ?_ ?_); (focus (first | (simp; done) | (simp; omega) | omega)))))))).mono ?_; rintro e w' ⟨rfl, rfl⟩)
      go_wp2_with fail
      have hbW : Below w.heap.size w ((w.alloc (.cells ([.int .i64 0, .int .i64 0, .slice none 0 0] : List Value).toArray 44)).alloc (.cells ([.int .i64 0, .int .i64 0, .slice none 0 0] : List Value).toArray 44)) := by (repeat (first | with_reducible exact Below.refl _ _ | ((with_reducible refine bl_alloc ?_ ?_); (focus (first | (simp; done) | (simp; omega) | omega))) | ((with_reducible refine bl_set ?_ ?_); (focus (first | (simp; done) | (simp; omega) | omega))) | ((with_reducible refine bl_later ?_ ?_); (focus (first | (simp; done) | (simp; omega) | omega))) | with_reducible refine bl_drew ?_ | with_reducible refine bl_drewN ?_ | ((with_reducible refine bl_step (by assumption) ?_ ?_); (focus (first | (simp; done) | (simp; omega) | omega)))))
      have Bz := (Bx.new w [.int .i64 0, .int .i64 0, .slice none 0 0] 44).alloc (.cells ([.int .i64 0, .int .i64 0, .slice none 0 0] : List Value).toArray 44)
      have By := Bx.new (w.alloc (.cells ([.int .i64 0, .int .i64 0, .slice none 0 0] : List Value).toArray 44)) [.int .i64 0, .int .i64 0, .slice none 0 0] 44
      rw [World.size_alloc] at By
      have Fz := (Fx.new w [.int .i64 0, .int .i64 0, .slice none 0 0] 44).alloc (.cells ([.int .i64 0, .int .i64 0, .slice none 0 0] : List Value).toArray 44)
      have hR := HR3.out
      refine (KC.out _ (hR.below hbW)).mono ?_
      rintro e w3 ⟨a3, c3, rfl, hOw, hb3⟩
      simp only [World.size_alloc] at hOw
      replace Bz := (Bz.below hb3).alloc (.cells ([.int .i64 p0, .int .i64 p1, .slice a3 L.length c3] : List Value).toArray 44) |>.drew
      replace By := (By.below hb3).alloc (.cells ([.int .i64 p0, .int .i64 p1, .slice a3 L.length c3] : List Value).toArray 44) |>.drew
      replace Fz := (Fz.below hb3).alloc (.cells ([.int .i64 p0, .int .i64 p1, .slice a3 L.length c3] : List Value).toArray 44) |>.drew
      have hb4 : Below w.heap.size w w3 := bl_step hb3 hbW.size hbW
      replace hOw := (hOw.below ((Below.refl _ _).alloc (Nat.le_refl _) (.cells ([.int .i64 p0, .int .i64 p1, .slice a3 L.length c3] : List Value).toArray 44))).below (Below.refl _ _).drew
      have Bt := Bx.new w3 [.int .i64 p0, .int .i64 p1, .slice a3 L.length c3] 44
      have hz3 := hb3.size
      simp only [World.size_alloc] at hz3
      clear hb3
      go_wp2_with fail
      refine restS_begin (SB w w3.heap.size [.int .i64 p0, .int .i64 p1, .slice a3 L.length c3]) (by kernel_rfl) (SB.start (hb4.alloc hb4.size _) Bt) ?_
      refine restS_take (v := ?_) 0 rfl (by kernel_rfl) (by kernel_rfl) (by kernel_rfl) (fun _ _ _ h => h) (by rfl) ?_ ?_
      rotate_left
      · intro w9 h9; obtain ⟨h8, h9⟩ := h9; obtain ⟨x9, rfl⟩ := later_of h8; replace h9 := h9.2; clear h8
        go_simp; try with_reducible rfl
      try simp only [Act.put, List.setIfInBounds_toArray, List.set_cons_zero, List.set_cons_succ]
      refine restS_take (v := ?_) 1 rfl (by kernel_rfl) (by kernel_rfl) (by kernel_rfl) (fun _ _ _ h => h) (by rfl) ?_ ?_
      rotate_left
      · intro w9 h9; try dsimp only at h9
        go_split_ands
        go_simp; try with_reducible rfl
      try simp only [Act.put, List.setIfInBounds_toArray, List.set_cons_zero, List.set_cons_succ]
      refine restS_alone 2 rfl (by kernel_rfl) (by rfl) (fun hS K hK => ?_)
      go_wp2_with fail
      rw [run_method_direct (f := 197)]
      rotate_left
      · kernel_rfl
      go_wp2_with fail
      refine (c_Feed_valid _ _ _ _ _ _ hOw.read).mono ?_
      rintro e w5 ⟨rfl, hb5⟩
      go_wp2_with fail
      have hS2 := SB.step hS hb5
      replace Bz := Bz.below hb5
      replace By := By.below hb5
      replace Fz := Fz.below hb5
      replace hOw := hOw.below hb5
      clear hb5
      refine hK.out _ _ hS2 ?_
      try simp only [Act.put, List.setIfInBounds_toArray, List.set_cons_zero, List.set_cons_succ]
      clear hK K hS hS2
      refine restS_take (v := ?_) 3 rfl (by kernel_rfl) (by kernel_rfl) (by kernel_rfl) (fun _ _ _ h => h) (by rfl) ?_ ?_
      rotate_left
      · intro w9 h9; try dsimp only at h9
        go_split_ands
        go_simp; try with_reducible rfl
      try simp only [Act.put, List.setIfInBounds_toArray, List.set_cons_zero, List.set_cons_succ]
      refine restS_take (v := ?_) 4 rfl (by kernel_rfl) (by kernel_rfl) (by kernel_rfl) (fun _ _ _ h => h) (by rfl) ?_ ?_
      rotate_left
      · intro w9 h9; try dsimp only at h9
        go_split_ands
        go_simp; try with_reducible rfl
      try simp only [Act.put, List.setIfInBounds_toArray, List.set_cons_zero, List.set_cons_succ]
      refine restS_take (v := ?_) 5 rfl (by kernel_rfl) (by kernel_rfl) (by kernel_rfl) (fun _ _ _ h => h) (by rfl) ?_ ?_
      rotate_left
      · intro w9 h9; obtain ⟨h8, h9⟩ := h9; obtain ⟨x9, rfl⟩ := later_of h8; replace h9 := h9.2; clear h8
        go_simp; try with_reducible rfl
      try simp only [Act.put, List.setIfInBounds_toArray, List.set_cons_zero, List.set_cons_succ]
      refine restS_take (v := ?_) 6 rfl (by kernel_rfl) (by kernel_rfl) (by kernel_rfl) (fun _ _ _ h => h) (by rfl) ?_ ?_
      rotate_left
      · intro w9 h9; try dsimp only at h9
        go_split_ands
        go_simp; try with_reducible rfl
      try simp only [Act.put, List.setIfInBounds_toArray, List.set_cons_zero, List.set_cons_succ]
      refine restS_take (v := ?_) 8 rfl (by kernel_rfl) (by kernel_rfl) (by kernel_rfl) (fun _ _ _ h => h) (by rfl) ?_ ?_
      rotate_left
      · intro w9 h9; try dsimp only at h9
        go_split_ands
        go_simp; try with_reducible rfl
      try simp only [Act.put, List.setIfInBounds_toArray, List.set_cons_zero, List.set_cons_succ]
      refine restS_take (v := ?_) 9 rfl (by kernel_rfl) (by kernel_rfl) (by kernel_rfl) (fun _ _ _ h => h) (by rfl) ?_ ?_
      rotate_left
      · intro w9 h9; try dsimp only at h9
        go_split_ands
        go_simp; try with_reducible rfl
      try simp only [Act.put, List.setIfInBounds_toArray, List.set_cons_zero, List.set_cons_succ]
      refine restS_alone 7 rfl (by kernel_rfl) (by rfl) (fun hS K hK => ?_)
      go_wp2_with fail
      rw [run_method_direct (f := 196)]
      rotate_left
      · kernel_rfl
      go_wp2_with fail
      refine (c_Feed_fields _ _ _ _ _ _ (hR.1 _ (by simp)) (hR.1 _ (by simp)) hOw.read hsd).mono ?_
      rintro e w6 ⟨a6, c6, rfl, ho6, hb6⟩
      go_wp2_with fail
      have hS2 := SB.step hS hb6
      replace Bz := Bz.below hb6
      replace By := By.below hb6
      replace Fz := Fz.below hb6
      replace hOw := hOw.below hb6
      clear hb6
      refine hK.out _ _ hS2 ?_
      try simp only [Act.put, List.setIfInBounds_toArray, List.set_cons_zero, List.set_cons_succ]
      clear hK K hS hS2
      refine restS_alone 10 rfl (by kernel_rfl) (by rfl) (fun hS K hK => ?_)
      go_wp2_with fail
      refine (c_SameRow _ _ _ _ (fieldsFeed p0 p1 L) (p0 :: p1 :: r) _ ho6.read (hR.below hS.1)).mono ?_
      rintro e w7 ⟨rfl, hb7⟩
      rw [hsame]
      go_wp2_with fail
      have hS2 := SB.step hS hb7
      replace Bz := Bz.below hb7
      replace By := By.below hb7
      replace Fz := Fz.below hb7
      replace hOw := hOw.below hb7
      clear hb7
      refine hK.out _ _ hS2 ?_
      try simp only [Act.put, List.setIfInBounds_toArray, List.set_cons_zero, List.set_cons_succ]
      clear hK K hS hS2
      refine restS_take (v := ?_) 11 rfl (by kernel_rfl) (by kernel_rfl) (by kernel_rfl) (fun _ _ _ h => h) (by rfl) ?_ ?_
      rotate_left
      · intro w9 h9; try dsimp only at h9
        go_split_ands
        go_simp; try with_reducible rfl
      try simp only [Act.put, List.setIfInBounds_toArray, List.set_cons_zero, List.set_cons_succ]
      refine restS_take (v := ?_) 12 rfl (by kernel_rfl) (by kernel_rfl) (by kernel_rfl) (fun _ _ _ h => h) (by rfl) ?_ ?_
      rotate_left
      · intro w9 h9; try dsimp only at h9
        go_split_ands
        go_simp; try with_reducible rfl
      try simp only [Act.put, List.setIfInBounds_toArray, List.set_cons_zero, List.set_cons_succ]
      refine restS_done (by kernel_rfl) (fun hS => ?_)
      have hj := Hj.out
      have q0 := Bz.2
      have q1 := By.2
      have q2 := hS.2.2
      have q3 := Fz.2
      have hbB := hS.1
      clear hS
      go_wp2_with fail
      refine bodyPost_ret (v := .tuple #[.agg #[.int .i64 p0, .int .i64 p1, .slice a3 L.length c3], .bool true]) (by simp [results, Try.results140, go_sem, *]) rfl ?_
      rw [Hl.out]
      rw [HL.out] at hOw ⊢
      refine retRowFeed_yes hj ?_ (by (repeat (first | with_reducible exact Below.refl _ _ | ((with_reducible refine bl_alloc ?_ ?_); (focus (first | (simp; done) | (simp; omega) | omega))) | ((with_reducible refine bl_set ?_ ?_); (focus (first | (simp; done) | (simp; omega) | omega))) | ((with_reducible refine bl_later ?_ ?_); (focus (first | (simp; done) | (simp; omega) | omega))) | with_reducible refine bl_drew ?_ | with_reducible refine bl_drewN ?_ | ((with_reducible refine bl_step (by assumption) ?_ ?_); (focus (first | (simp; done) | (simp; omega) | omega))))))
      refine OwnA.weak (lo := w.heap.size + 1 + 1) (by omega) ?_
      repeat (first | ((with_reducible refine OwnA.set ?_ ?_); (focus (first | (simp; done) | (simp; omega) | omega))))
      exact hOw
theorem c_decoded_Feed (ao : Option Addr) (cap : Nat) (l : List Int) (w : World) (hh : IntsR w ao l) (hcap : l.length ≤ cap) : Calls Try.prog 140 #[.slice ao l.length cap, .int .i64 4, .int .i64 2, .int .i64 29, .func (Fn.func 141) #[] #[]] w (RetRowFeed w l) := by
  cases hk : (kindOf l != 4)
  · by_cases h2 : l.length < 3 ∨ 30 < l.length
    · exact c_decoded_Feed_len ao cap l w hh hcap hk h2
    · obtain ⟨x0, p0, p1, r, e⟩ := three (l := l) (by omega)
      obtain ⟨hl0, hl1, hd⟩ := kindOf_pos hk (by omega)
      rw [e] at hd
      obtain rfl : x0 = 4 := by simpa using hd
      exact c_decoded_Feed_good ao cap l p0 p1 r w hh hcap e hk (by omega) (by omega)
  · exact c_decoded_Feed_bad ao cap l w hh hcap hk
theorem c_spec_RowFeed (ao : Option Addr) (cap : Nat) (l : List Int) (w : World) (hh : IntsR w ao l) (hcap : l.length ≤ cap) : Calls Try.prog 94 #[.slice ao l.length cap] w (RetRowFeed w l) := by
  by_cases hbad : l.length < 3 ∨ 30 < l.length ∨ l.length % 9 ≠ 3 ∨ l.headD 0 ≠ 4
  · have hj : isFeed l = false := by
      rcases hbad with h | h | h | h
      · exact isFeed_short h
      · exact isFeed_long h
      · exact isFeed_odd h
      · cases hj : isFeed l
        · rfl
        · exfalso
          by_cases h6 : l.length < 3
          · rw [isFeed_short h6] at hj; simp at hj
          · obtain ⟨x0, p0, p1, r, rfl⟩ := three (l := l) (by omega)
            simp only [isFeed, Bool.and_eq_true, beq_iff_eq] at hj
            exact h (by simp [hj.2.2.1])
    exact (c_spec_RowFeed_bad ao cap l w hh hbad).mono fun e w' ⟨he, hb⟩ => by rw [he]; exact retRowFeed_no hj hb
  · obtain ⟨x0, p0, p1, r, e⟩ := three (l := l) (by omega)
    have h9 : x0 = 4 := by
      have h7 : l.headD 0 = 4 := by omega
      rw [e] at h7; simpa using h7
    rw [h9] at e
    exact c_spec_RowFeed_shape ao cap l p0 p1 r w hh hcap e (by omega) (by omega) (by show _ = _; omega)
theorem c_impl_RowFeed (ao : Option Addr) (cap : Nat) (l : List Int) (w : World) (hh : IntsR w ao l) (hcap : l.length ≤ cap) : Calls Try.prog 85 #[.slice ao l.length cap] w (RetRowFeed w l) := by
  have key := c_decoded_Feed ao cap l (w.alloc (.cells ([.int .i64 0, .int .i64 0, .slice none 0 0] : List Value).toArray 44)) (hh.below (by (repeat (first | with_reducible exact Below.refl _ _ | ((with_reducible refine bl_alloc ?_ ?_); (focus (first | (simp; done) | (simp; omega) | omega))) | ((with_reducible refine bl_set ?_ ?_); (focus (first | (simp; done) | (simp; omega) | omega))) | ((with_reducible refine bl_later ?_ ?_); (focus (first | (simp; done) | (simp; omega) | omega))) | with_reducible refine bl_drew ?_ | with_reducible refine bl_drewN ?_ | ((with_reducible refine bl_step (by assumption) ?_ ?_); (focus (first | (simp; done) | (simp; omega) | omega))))))) hcap
  go_enter Try.func85, Try.ntmps85
  go_wp2_with fail
  refine key.mono ?_
  rintro e w1 ⟨a1, c1, rfl, ho1, hb⟩
  have q0 := ((Bx.new w [.int .i64 0, .int .i64 0, .slice none 0 0] 44).below hb).2
  have q1 := ((Fx.new w [.int .i64 0, .int .i64 0, .slice none 0 0] 44).below hb).2
  have hz := hb.size
  simp only [World.size_alloc] at hz ho1
  clear key
  go_wp2_with fail
  refine bodyPost_ret (v := .tuple #[.agg #[.int .i64 (feedHead l).1, .int .i64 (feedHead l).2, .slice a1 (feedOpen l).length c1], .bool (isFeed l)]) (by simp [results, Try.results85, go_sem, *]) rfl ⟨a1, c1, rfl, ?_, by (repeat (first | with_reducible exact Below.refl _ _ | ((with_reducible refine bl_alloc ?_ ?_); (focus (first | (simp; done) | (simp; omega) | omega))) | ((with_reducible refine bl_set ?_ ?_); (focus (first | (simp; done) | (simp; omega) | omega))) | ((with_reducible refine bl_later ?_ ?_); (focus (first | (simp; done) | (simp; omega) | omega))) | with_reducible refine bl_drew ?_ | with_reducible refine bl_drewN ?_ | ((with_reducible refine bl_step (by assumption) ?_ ?_); (focus (first | (simp; done) | (simp; omega) | omega)))))⟩
  refine OwnA.weak (lo := w.heap.size + 1) (by omega) ?_
  repeat (first | ((with_reducible refine OwnA.set ?_ ?_); (focus (first | (simp; done) | (simp; omega) | omega))))
  exact ho1

end Go.Proofs.Ytpfkfppooeikeaa
