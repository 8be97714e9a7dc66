/- Walks of functions of the program, printed by a program of the prover. -/
import Derived.Test.YtmjafclpeknpcaaNCopy1
import Derived.WalkKit
import Derived.WalkSpells
import Derived.Deep.QuietTactic
import Derived.BigQuiet
import Derived.Deep.Light
import Derived.Lib.Hide
import Derived.IntWalk
namespace Go.Proofs.Ytmjafclpeknpcaa
open Go.ChangeShapes Go.WideShapes Go.ChangeAt Go.RowKit Go.Deep
set_option maxHeartbeats 1600000
set_option maxRecDepth 100000

def sumStep (s x : Int) : Int := (131 * s + x + 1) % 999999937
def sumL (l : List Int) : Int := l.foldl sumStep 7
theorem sumStep_range (s x : Int) : 0 ≤ sumStep s x ∧ sumStep s x ≤ 999999936 := by unfold sumStep; omega
theorem sumL_succ {l : List Int} {k : Nat} (hk : k < l.length) : sumL (l.take (k + 1)) = sumStep (sumL (l.take k)) l[k] := by
  unfold sumL
  rw [List.take_succ_eq_append_getElem hk, List.foldl_append]
  rfl
theorem sumL_range (l : List Int) : 0 ≤ sumL l ∧ sumL l ≤ 999999936 := by
  rcases List.eq_nil_or_concat l with rfl | ⟨l', x, rfl⟩
  · unfold sumL; simp
  · unfold sumL
    rw [List.concat_eq_append, List.foldl_append]
    exact sumStep_range _ _
theorem rowOk_at {l : List Int} (h : rowOk l = true) {x : Int} (hx : x ∈ l) : 0 ≤ x ∧ x ≤ 1000000000 := by
  unfold rowOk at h
  simp only [Bool.and_eq_true, List.all_eq_true] at h
  have := h.2 x hx
  rw [← numOk_inB] at this
  simpa [inB] using this
theorem rowOk_len {l : List Int} (h : rowOk l = true) : l.length ≤ 48 := by
  unfold rowOk at h
  simp only [Bool.and_eq_true, decide_eq_true_eq] at h
  exact h.1
def withSum (l : List Int) : List Int := if rowOk l && decide (l.length < 48) then l ++ [sumL l] else []
theorem withSum_y {l : List Int} (h : rowOk l = true) (h2 : l.length < 48) : withSum l = l ++ [sumL l] := by unfold withSum; rw [h, decide_eq_true h2]; rfl
theorem withSum_n {l : List Int} (h : rowOk l = false) : withSum l = [] := by unfold withSum; rw [h]; rfl
theorem withSum_m {l : List Int} (h : ¬ l.length < 48) : withSum l = [] := by unfold withSum; rw [decide_eq_false h, Bool.and_false]; rfl
theorem withSum_ok {l : List Int} (hl : ∀ x ∈ l, inI64 x) : ∀ x ∈ withSum l, inI64 x := by
  have := sumL_range l
  unfold withSum
  split
  · intro x hx
    rcases List.mem_append.1 hx with hx | hx
    · exact hl x hx
    · rw [List.mem_singleton.1 hx]; unfold inI64; omega
  · simp
theorem c_impl_checksum (ao : Option Addr) (cap : Nat) (l : List Int) (w : World) (h : IntsR w ao l) (hR : rowOk l = true) :
    Calls Try.prog 158 #[.slice ao l.length cap] w fun e w' => e = .returned (.int .i64 (sumL l)) ∧ w = w' := by
  have hm := h.2.1
  have HR : Hid (∀ x ∈ l, 0 ≤ x ∧ x ≤ 1000000000) := fun x hx => rowOk_at hR hx
  clear hR
  go_enter Try.func158, Try.ntmps158
  go_wp2_with fail
  go_loop [3, 8] (fun v i => ∃ (k : Nat) (S : Int), k ≤ l.length ∧ i = .int .i64 k ∧ v = .int .i64 S ∧ 0 ≤ S ∧ S ≤ 999999936 ∧ Hid (S = sumL (l.take k))) (fun _ i => l.length - (intOf i).toNat)
  case atStart => exact ⟨0, 7, Nat.zero_le _, rfl, rfl, by omega, by omega, rfl⟩
  case round =>
    obtain ⟨k, S, hk, rfl, rfl, h1, h2, HS⟩ := hrel
    by_cases hlt : k < l.length
    · have hp : (k : Int) < (l.length : Int) := by omega
      obtain ⟨b, off, rfl, hbl, _, hc⟩ := h.at hlt
      have hx := HR.out _ (List.getElem_mem hlt)
      have hck := hc k hlt
      obtain ⟨x, HX⟩ : ∃ x, Hid (l[k] = x) := ⟨_, Lib.hid rfl⟩
      rw [HX.out] at hx hck
      clear hc
      obtain ⟨hx1, hx2⟩ := hx
      go_wp2_with fail
      go_round
      case rel => exact ⟨k + 1, sumStep S x, by omega, by go_num, by rfl, (sumStep_range _ _).1, (sumStep_range _ _).2, by rw [Hid, sumL_succ hlt, HS.out, HX.out]⟩
      case measure => simp [intOf]; omega
    · obtain rfl : k = l.length := by omega
      have e := HS.out
      rw [List.take_length] at e
      go_wp2_with fail
      go_ret
      exact ⟨rfl, rfl⟩
theorem c_spec_SumOf (ao : Option Addr) (cap : Nat) (l : List Int) (w : World) (h : IntsR w ao l) (hR : rowOk l = true) :
    Calls Try.prog 135 #[.slice ao l.length cap] w fun e w' => e = .returned (.int .i64 (sumL l)) ∧ w = w' := by
  have hm := h.2.1
  have HR : Hid (∀ x ∈ l, 0 ≤ x ∧ x ≤ 1000000000) := fun x hx => rowOk_at hR hx
  have HR2 := Lib.hid hR
  clear hR
  go_enter Try.func135, Try.ntmps135
  go_wp2_with fail
  refine (c_spec_RowOk ao cap l _ h).mono ?_
  rw [HR2.out]
  rintro e w' ⟨rfl, rfl⟩
  go_wp2_with fail
  go_loop [3, 4] (fun v i => ∃ (k : Nat) (S : Int), k ≤ l.length ∧ i = .int .i64 k ∧ v = .int .i64 S ∧ 0 ≤ S ∧ S ≤ 999999936 ∧ Hid (S = sumL (l.take k))) (fun _ i => l.length - (intOf i).toNat)
  case atStart => exact ⟨0, 7, Nat.zero_le _, rfl, rfl, by omega, by omega, rfl⟩
  case round =>
    obtain ⟨k, S, hk, rfl, rfl, h1, h2, HS⟩ := hrel
    by_cases hlt : k < l.length
    · have hp : (k : Int) < (l.length : Int) := by omega
      obtain ⟨b, off, rfl, hbl, _, hc⟩ := h.at hlt
      have hx := HR.out _ (List.getElem_mem hlt)
      have hck := hc k hlt
      obtain ⟨x, HX⟩ : ∃ x, Hid (l[k] = x) := ⟨_, Lib.hid rfl⟩
      rw [HX.out] at hx hck
      clear hc
      obtain ⟨hx1, hx2⟩ := hx
      go_wp2_with fail
      go_round
      case rel => exact ⟨k + 1, sumStep S x, by omega, by go_num, by rfl, (sumStep_range _ _).1, (sumStep_range _ _).2, by rw [Hid, sumL_succ hlt, HS.out, HX.out]⟩
      case measure => simp [intOf]; omega
    · obtain rfl : k = l.length := by omega
      have e := HS.out
      rw [List.take_length] at e
      go_wp2_with fail
      go_ret
      exact ⟨rfl, rfl⟩
theorem c_spec_WithSum_y (ao : Option Addr) (cap : Nat) (l : List Int) (w : World) (h : IntsR w ao l) (hR : rowOk l = true) (h2 : l.length < 48) :
    Calls Try.prog 81 #[.slice ao l.length cap] w (RetI w 2 (l ++ [sumL l])) := by
  have hm := h.2.1
  have hsr := sumL_range l
  obtain ⟨i0, hi, hz0, hz1, hz2⟩ := info_parts info_int64
  have HR := Lib.hid hR
  clear hR
  have h48 : decide (48 ≤ (l.length : Int)) = false := by simp; omega
  have h49 : ((l.length : Int) == 48) = false := by simp; omega
  go_enter Try.func81, Try.ntmps81
  go_wp2_with fail
  refine (c_spec_RowOk ao cap l _ h).mono ?_
  rw [HR.out]
  rintro e w' ⟨rfl, rfl⟩
  go_wp2_with fail
  refine (c_spec_l1Copy ao cap l _ h (by omega)).mono ?_
  rintro e w1 ⟨a1, c1, rfl, ho1, hb1⟩
  have Hap := Lib.hid ho1.2.2.lt
  have hz := hb1.size
  have Hr1 := Lib.hid (h.below hb1)
  have Ho1 := Lib.hid (ho1.below ((Below.refl _ _).alloc (Nat.le_refl _) (.cells (([sumL l] : List Int).map (Value.int .i64)).toArray 2)))
  have Hl1 := Lib.hid (owns_lit w1 w.heap.size 2 [sumL l] hz (by simp) (by simp [inI64]; omega)).read
  clear ho1 h
  go_wp2_with fail
  refine (c_spec_SumOf ao cap l _ Hr1.out HR.out).mono ?_
  rintro e w' ⟨rfl, rfl⟩
  go_wp2_with (at_builtin; refine wpList_append_ints rfl _ _ _ rfl w.heap.size 2 i0 Try.underlying85 hi hz0 hz1 hz2 _ _ _ _ l [sumL l] rfl Ho1.out rfl Hl1.out (by simp; omega) (by simp; omega) (fun a3 c3 w3 ho3 hg3 => ?_))
  go_wp2_with fail
  go_ret
  exact ⟨_, _, by rw [List.length_append]; rfl, ho3, Below.grown (hb1.alloc hz _) hg3 (by simp; omega) (fun k hk => (Hap.out k hk).1)⟩
theorem c_spec_WithSum_n (ao : Option Addr) (cap : Nat) (l : List Int) (w : World) (h : IntsR w ao l) (hW : withSum l = []) :
    Calls Try.prog 81 #[.slice ao l.length cap] w (RetI w 2 []) := by
  have hm := h.2.1
  cases hR : rowOk l
  · go_enter Try.func81, Try.ntmps81
    go_wp2_with fail
    refine (c_spec_RowOk ao cap l _ h).mono ?_
    rw [hR]
    rintro e w' ⟨rfl, rfl⟩
    go_wp2_with fail
    go_ret
    exact ⟨_, _, rfl, owns_empty w _ _ (Nat.le_refl _), by (repeat (first | with_reducible exact Below.refl _ _ | ((with_reducible refine bl_alloc ?_ ?_); (focus (first | (simp; done) | (simp; omega) | omega))) | ((with_reducible refine bl_set ?_ ?_); (focus (first | (simp; done) | (simp; omega) | omega))) | ((with_reducible refine bl_later ?_ ?_); (focus (first | (simp; done) | (simp; omega) | omega))) | with_reducible refine bl_drew ?_ | with_reducible refine bl_drewN ?_ | ((with_reducible refine bl_step (by assumption) ?_ ?_); (focus (first | (simp; done) | (simp; omega) | omega)))))⟩
  · have h2 : l.length = 48 := by
      have := rowOk_len hR
      by_cases h3 : l.length < 48
      · rw [withSum_y hR h3] at hW; simp at hW
      · omega
    have h48 : decide (48 ≤ (l.length : Int)) = true := by simp; omega
    have h49 : ((l.length : Int) == 48) = true := by simp; omega
    clear h2
    go_enter Try.func81, Try.ntmps81
    go_wp2_with fail
    refine (c_spec_RowOk ao cap l _ h).mono ?_
    rw [hR]
    rintro e w' ⟨rfl, rfl⟩
    go_wp2_with fail
    go_ret
    exact ⟨_, _, rfl, owns_empty w _ _ (Nat.le_refl _), by (repeat (first | with_reducible exact Below.refl _ _ | ((with_reducible refine bl_alloc ?_ ?_); (focus (first | (simp; done) | (simp; omega) | omega))) | ((with_reducible refine bl_set ?_ ?_); (focus (first | (simp; done) | (simp; omega) | omega))) | ((with_reducible refine bl_later ?_ ?_); (focus (first | (simp; done) | (simp; omega) | omega))) | with_reducible refine bl_drew ?_ | with_reducible refine bl_drewN ?_ | ((with_reducible refine bl_step (by assumption) ?_ ?_); (focus (first | (simp; done) | (simp; omega) | omega)))))⟩
theorem c_impl_WithSum_y (ao : Option Addr) (cap : Nat) (l : List Int) (w : World) (h : IntsR w ao l) (hR : rowOk l = true) (h2 : l.length < 48) :
    Calls Try.prog 140 #[.slice ao l.length cap] w (RetI w 2 (l ++ [sumL l])) := by
  have hm := h.2.1
  have hsr := sumL_range l
  obtain ⟨i0, hi, hz0, hz1, hz2⟩ := info_parts info_int64
  have HR := Lib.hid hR
  clear hR
  have h48 : decide (48 ≤ (l.length : Int)) = false := by simp; omega
  have h49 : ((l.length : Int) == 48) = false := by simp; omega
  go_enter Try.func140, Try.ntmps140
  go_wp2_with fail
  refine (c_impl_RowOk ao cap l _ h).mono ?_
  rw [HR.out]
  rintro e w' ⟨rfl, rfl⟩
  go_wp2_with fail
  refine (c_impl_copyRow ao cap l _ h (by omega)).mono ?_
  rintro e w1 ⟨a1, c1, rfl, ho1, hb1⟩
  have Hap := Lib.hid ho1.2.2.lt
  have hz := hb1.size
  have Hr1 := Lib.hid (h.below hb1)
  have Ho1 := Lib.hid (ho1.below ((Below.refl _ _).alloc (Nat.le_refl _) (.cells (([sumL l] : List Int).map (Value.int .i64)).toArray 2)))
  have Hl1 := Lib.hid (owns_lit w1 w.heap.size 2 [sumL l] hz (by simp) (by simp [inI64]; omega)).read
  clear ho1 h
  go_wp2_with fail
  refine (c_impl_checksum ao cap l _ Hr1.out HR.out).mono ?_
  rintro e w' ⟨rfl, rfl⟩
  go_wp2_with (at_builtin; refine wpList_append_ints rfl _ _ _ rfl w.heap.size 2 i0 Try.underlying85 hi hz0 hz1 hz2 _ _ _ _ l [sumL l] rfl Ho1.out rfl Hl1.out (by simp; omega) (by simp; omega) (fun a3 c3 w3 ho3 hg3 => ?_))
  go_wp2_with fail
  go_ret
  exact ⟨_, _, by rw [List.length_append]; rfl, ho3, Below.grown (hb1.alloc hz _) hg3 (by simp; omega) (fun k hk => (Hap.out k hk).1)⟩
theorem c_impl_WithSum_n (ao : Option Addr) (cap : Nat) (l : List Int) (w : World) (h : IntsR w ao l) (hW : withSum l = []) :
    Calls Try.prog 140 #[.slice ao l.length cap] w fun e w' => e = .returned (.slice none 0 0) ∧ w = w' := by
  have hm := h.2.1
  cases hR : rowOk l
  · go_enter Try.func140, Try.ntmps140
    go_wp2_with fail
    refine (c_impl_RowOk ao cap l _ h).mono ?_
    rw [hR]
    rintro e w' ⟨rfl, rfl⟩
    go_wp2_with fail
    go_ret
    exact ⟨rfl, rfl⟩
  · have h2 : l.length = 48 := by
      have := rowOk_len hR
      by_cases h3 : l.length < 48
      · rw [withSum_y hR h3] at hW; simp at hW
      · omega
    have h48 : decide (48 ≤ (l.length : Int)) = true := by simp; omega
    have h49 : ((l.length : Int) == 48) = true := by simp; omega
    clear h2
    go_enter Try.func140, Try.ntmps140
    go_wp2_with fail
    refine (c_impl_RowOk ao cap l _ h).mono ?_
    rw [hR]
    rintro e w' ⟨rfl, rfl⟩
    go_wp2_with fail
    go_ret
    exact ⟨rfl, rfl⟩

end Go.Proofs.Ytmjafclpeknpcaa
