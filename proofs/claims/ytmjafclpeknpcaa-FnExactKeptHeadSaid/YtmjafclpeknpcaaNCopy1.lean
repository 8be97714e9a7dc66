/- Copies: rows, lists of rows. -/
import Derived.Test.YtmjafclpeknpcaaNApp
namespace Go.Proofs.Ytmjafclpeknpcaa
open Go.ChangeShapes Go.WideShapes Go.ChangeAt Go.RowKit Go.Deep
set_option maxHeartbeats 1600000
set_option maxRecDepth 100000
theorem c_impl_copyRow (ao : Option Addr) (cap : Nat) (l : List Int) (w : World) (h : IntsR w ao l) (hs : l.length ≤ 1048576) :
    Calls Try.prog 156 #[.slice ao l.length cap] w (RetI w 2 l) := by
  have hm := h.2.1
  obtain ⟨i0, hi, hz0, hz1, hz2⟩ := info_parts info_int64
  have He := Lib.hid (owns_empty w w.heap.size 2 (Nat.le_refl _))
  have Hr := Lib.hid (h.below ((Below.refl _ _).alloc (Nat.le_refl _) (.cells #[] 2)))
  go_enter Try.func156, Try.ntmps156
  go_wp2_with (at_builtin; refine wpList_append_ints rfl _ _ _ rfl w.heap.size 2 i0 Try.underlying85 hi hz0 hz1 hz2 _ _ _ _ [] l rfl He.out rfl Hr.out (by simp; omega) (by simp) (fun a3 c3 w3 ho3 hg3 => ?_))
  go_wp2_with fail
  go_ret
  exact ⟨_, _, rfl, ho3, (Below.grown ((Below.refl _ _).alloc (Nat.le_refl _) _) hg3 (by simp) (fun k hk => by simp [Value.ownBlock] at hk; omega))⟩
theorem c_spec_l1Copy (ao : Option Addr) (cap : Nat) (l : List Int) (w : World) (h : IntsR w ao l) (hs : l.length ≤ 1048576) :
    Calls Try.prog 133 #[.slice ao l.length cap] w (RetI w 2 l) := by
  have hm := h.2.1
  obtain ⟨i0, hi, hz0, hz1, hz2⟩ := info_parts info_int64
  have He := Lib.hid (owns_empty w w.heap.size 2 (Nat.le_refl _))
  have Hr := Lib.hid (h.below ((Below.refl _ _).alloc (Nat.le_refl _) (.cells #[] 2)))
  go_enter Try.func133, Try.ntmps133
  go_wp2_with (at_builtin; refine wpList_append_ints rfl _ _ _ rfl w.heap.size 2 i0 Try.underlying85 hi hz0 hz1 hz2 _ _ _ _ [] l rfl He.out rfl Hr.out (by simp; omega) (by simp) (fun a3 c3 w3 ho3 hg3 => ?_))
  go_wp2_with fail
  go_ret
  exact ⟨_, _, rfl, ho3, (Below.grown ((Below.refl _ _).alloc (Nat.le_refl _) _) hg3 (by simp) (fun k hk => by simp [Value.ownBlock] at hk; omega))⟩
theorem info_row : (Try.prog.info? 85).map (fun i => (i.zero, i.size, i.bytes)) = some (some (.slice none 0 0), 1, 24) := by kernel_rfl
theorem c_impl_copyRows (ao : Option Addr) (cap : Nat) (K : List (List Int)) (w : World) (h : RowsR w ao K) (hl : K.length ≤ 1048576) (hs : ∀ k (hk : k < K.length), K[k].length ≤ 1048576) :
    Calls Try.prog 162 #[.slice ao K.length cap] w fun e w' => ∃ ao' cap', e = .returned (.slice ao' K.length cap') ∧ NestB (ownI 2) rawS w' w.heap.size w'.heap.size 85 (.slice ao' K.length cap') K ∧ Below w.heap.size w w' := by
  have hm := h.1
  obtain ⟨i0, hi, hz0, hz1, hz2⟩ := info_parts info_row
  go_enter Try.func162, Try.ntmps162
  go_wp2_with (at_make; refine wpList_make_own _ rfl _ _ 22 rfl w.heap.size 85 i0 (.slice none 0 0) 1 Try.underlying22 hi hz0 hz1 _ _ _ K.length rfl rfl rfl ?c1 ?c2 ?c3 ?_)
  case c1 => rw [hz2]; omega
  case c2 => unfold maxLen; omega
  case c3 => omega
  intro w1 hown hgrow
  have hst := Nest.start (A := ownI 2) (E := rawS) hown
  have hb1 : Below w.heap.size w w1 := (Below.refl _ _).grown hgrow (Nat.le_refl _) (by simp)
  clear hown hgrow
  go_wp2_with fail
  go_loopw [3, 11] (fun v i wr => ∃ (k : Nat) (T : List (List Int)) (ao' : Option Addr) (cap' : Nat) (rs : List (Option Addr × Nat × Nat)) (Fs : List (List Nat)), k ≤ K.length ∧ i = .int .i64 k ∧ v = .slice ao' T.length cap' ∧ Hid (T = K.take k) ∧ Hid (Nest (ownI 2) rawS wr w.heap.size 85 (.slice ao' T.length cap') T rs Fs) ∧ Below w.heap.size w wr)
    (fun _ i _ => K.length - (intOf i).toNat)
  case atStart => exact ⟨0, [], _, _, _, _, Nat.zero_le _, rfl, rfl, rfl, hst, hb1⟩
  case round =>
    obtain ⟨k, T, ao', cap', rs, Fs, hk, rfl, rfl, HT, Hn, hbel⟩ := hrel
    clear hst hb1
    by_cases hlt : k < K.length
    · have hp : (k : Int) < (K.length : Int) := by omega
      have htl : T.length ≤ 1048576 := by rw [HT.out, List.length_take]; omega
      obtain ⟨b, off, rfl, hbl, hc⟩ := (h.below hbel).at hlt
      obtain ⟨ai, ci, hcell, hr, hci⟩ := hc k hlt
      have hrl := hs k hlt
      have hbs := hbel.size
      have Hap := Lib.hid Hn.out.apart
      obtain ⟨r, HR⟩ : ∃ r, Hid (K[k] = r) := ⟨K[k], Lib.hid rfl⟩
      rw [HR.out] at hcell hr hci hrl
      clear hc
      go_wp2_with fail
      refine (c_impl_copyRow ai ci r _ hr hrl).mono ?_
      rintro e w2 ⟨a2, c2, rfl, ho2, hb2⟩
      have hbs2 := hb2.size
      have Hb2 : Hid (Below wr.heap.size wr (w2.alloc (.cells (rawS.cells (a2, r.length, c2)).toArray 85))) := hb2.alloc hb2.size _
      have Hx : Hid (Sp (ownI 2) (w2.alloc (.cells (rawS.cells (a2, r.length, c2)).toArray 85)) wr.heap.size (w2.alloc (.cells (rawS.cells (a2, r.length, c2)).toArray 85)).heap.size r (rawS.cells (a2, r.length, c2))) :=
        ((sp_of_ints ho2).kp (kp_alloc (Nat.le_refl _) kp_refl)).wide (Nat.le_refl _) (by simp)
      clear ho2
      go_wp2_with (at_builtin; refine wpList_append_nest (A := ownI 2) (E := rawS) rfl _ _ 22 rfl w.heap.size 85 i0 (.slice none 0 0) 24 Try.underlying22 hi hz0 hz1 hz2 rfl (by omega) rawS_one rfl rfl rfl Hn.out Hb2.out Hx.out trivial hbs lit_cells (by omega) ?_)
      intro a3 c3 w3 G hn3 hg3
      have Hn3 : Hid (Nest (ownI 2) rawS w3 w.heap.size 85 (.slice a3 (T ++ [r]).length c3) (T ++ [r]) (rs ++ [(a2, r.length, c2)]) (Fs ++ [G])) := by
        have e : (T ++ [r]).length = T.length + 1 := by simp
        rw [Hid, e]; exact hn3
      clear hn3
      go_wp2_with fail
      go_roundw
      case rel => exact ⟨k + 1, T ++ [r], a3, c3, _, _, by omega, by go_num, by simp, by rw [Hid, HT.out, List.take_succ_eq_append_getElem hlt, HR.out], Hn3, Below.grown ((bl_step hb2 hbs hbel).alloc (by omega) _) hg3 (by simp; omega) (fun q hq => (Hap.out q hq).1)⟩
      case measure => simp [intOf]; omega
    · obtain rfl : k = K.length := by omega
      have e := HT.out
      rw [List.take_length] at e
      subst e
      go_wp2_with fail
      go_ret
      exact ⟨_, _, rfl, Hn.out.toB, hbel⟩
end Go.Proofs.Ytmjafclpeknpcaa
