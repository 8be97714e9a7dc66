/- Walks of functions of the program, printed by a program of the prover. -/
import Derived.Test.YtmjafclpeknpcaaNCopy2
import Derived.WalkKit
import Derived.WalkSpells
import Derived.Deep.QuietTactic
import Derived.BigQuiet
import Derived.Deep.Light
import Derived.Lib.Hide
import Derived.IntWalk
namespace Go.Proofs.Ytmjafclpeknpcaa
open Go.ChangeShapes Go.WideShapes Go.ChangeAt Go.RowKit Go.Deep
set_option maxHeartbeats 1600000
set_option maxRecDepth 100000

theorem c_spec_l3Copy (ak aw : Option Addr) (ck cw : Nat) (d : List (List Int) × List (Int × List Int)) (w : World) (h : DiskR w ak aw d) (hI : DiskB d) :
    Calls Try.prog 80 #[.agg #[.slice ak d.1.length ck, .slice aw d.2.length cw]] w fun e w' => ∃ a1 c1 a2 c2, e = .returned (.agg #[.slice a1 d.1.length c1, .slice a2 d.2.length c2]) ∧ DiskOwn w' w.heap.size w'.heap.size d a1 c1 a2 c2 ∧ Below w.heap.size w w' := by
  obtain ⟨K, W⟩ := d
  have hkm : K.length ≤ 9223372036854775807 := h.1.1
  have hwm : W.length ≤ 9223372036854775807 := h.2.1
  obtain ⟨hl1, hs1, hl2, hs2⟩ := hI
  simp only at hl1 hs1 hl2 hs2
  obtain ⟨i0, hi, hz0, hz1, hz2⟩ := info_parts info_write
  obtain ⟨j0, hj, hj0, hj1, hj2⟩ := info_parts info_row
  have HKr : Hid (∀ V, Below w.heap.size w V → RowsR V ak K) := fun V hb => h.1.below hb
  have HWr : Hid (∀ V, Below w.heap.size w V → WritesR V aw W) := fun V hb => h.2.below hb
  clear h
  have HA0 := Lib.hid (((Bx.new w [.slice ak K.length ck, .slice aw W.length cw] 35).alloc (.cells #[.slice none 0 0, .slice none 0 0] 35)).alloc (.cells #[.slice none 0 0, .slice none 0 0] 35))
  have HR0 := Lib.hid ((Bx.new (w.alloc (.cells #[.slice ak K.length ck, .slice aw W.length cw] 35)) [.slice none 0 0, .slice none 0 0] 35).alloc (.cells #[.slice none 0 0, .slice none 0 0] 35))
  have HG0 := Lib.hid ((Fx.new (w.alloc (.cells #[.slice ak K.length ck, .slice aw W.length cw] 35)) [.slice none 0 0, .slice none 0 0] 35).alloc (.cells #[.slice none 0 0, .slice none 0 0] 35))
  have HO0 := Lib.hid (Bx.new ((w.alloc (.cells #[.slice ak K.length ck, .slice aw W.length cw] 35)).alloc (.cells #[.slice none 0 0, .slice none 0 0] 35)) [.slice none 0 0, .slice none 0 0] 35)
  have HF0 := Lib.hid (Fx.new ((w.alloc (.cells #[.slice ak K.length ck, .slice aw W.length cw] 35)).alloc (.cells #[.slice none 0 0, .slice none 0 0] 35)) [.slice none 0 0, .slice none 0 0] 35)
  simp only [World.size_alloc] at HR0 HG0 HO0 HF0
  go_enter Try.func80, Try.ntmps80
  go_wp2_with fail
  go_loopw [4] (fun i wr => ∃ (k : Nat) (T : List (List Int)) (ao' : Option Addr) (cap' : Nat) (rs : List (Option Addr × Nat × Nat)) (Fs : List (List Nat)), k ≤ K.length ∧ i = .int .i64 k ∧ Hid (T = K.take k) ∧
    Hid (Nest (ownI 2) rawS wr (w.heap.size + 1 + 1 + 1) 85 (.slice ao' T.length cap') T rs Fs) ∧
    Hid (Bx wr (w.heap.size + 1 + 1) [.slice ao' T.length cap', .slice none 0 0]) ∧ Hid (Fx wr (w.heap.size + 1 + 1)) ∧ Hid (Bx wr w.heap.size [.slice ak K.length ck, .slice aw W.length cw]) ∧
    Hid (Bx wr (w.heap.size + 1) [.slice none 0 0, .slice none 0 0]) ∧ Hid (Fx wr (w.heap.size + 1)) ∧ Below w.heap.size w wr) (fun i _ => K.length - (intOf i).toNat)
  case atStart => exact ⟨0, [], none, 0, [], [], Nat.zero_le _, rfl, rfl, Nest.nil _ _ _, HO0, HF0, HA0, HR0, HG0, by (repeat (first | with_reducible exact Below.refl _ _ | ((with_reducible refine bl_alloc ?_ ?_); (focus (first | (simp; done) | (simp; omega) | omega))) | ((with_reducible refine bl_set ?_ ?_); (focus (first | (simp; done) | (simp; omega) | omega))) | ((with_reducible refine bl_later ?_ ?_); (focus (first | (simp; done) | (simp; omega) | omega))) | with_reducible refine bl_drew ?_ | with_reducible refine bl_drewN ?_ | ((with_reducible refine bl_step (by assumption) ?_ ?_); (focus (first | (simp; done) | (simp; omega) | omega)))))⟩
  case round =>
    obtain ⟨k, T, ao', cap', rs, Fs, hk, rfl, HT, Hn, HBo, HFo, HBa, HBr, HFr, hbel⟩ := hrel
    clear HA0 HR0 HG0 HO0 HF0
    have hsz := hbel.size
    have p0 := HBa.out.1
    have p1 := HBr.out.1
    have p2 := HBo.out.1
    have q0 := HBa.out.2
    have q2 := HBo.out.2
    by_cases hlt : k < K.length
    · have hp : (k : Int) < (K.length : Int) := by omega
      have htl : T.length ≤ 1048576 := by rw [HT.out, List.length_take]; omega
      obtain ⟨b, off, rfl, hbl, hc⟩ := (HKr.out _ hbel).at hlt
      obtain ⟨ai, ci, hc0, hr, _⟩ := hc k hlt
      have hrl := hs1 k hlt
      clear hc
      obtain ⟨r, HR⟩ : ∃ r, Hid (K[k] = r) := ⟨_, Lib.hid rfl⟩
      rw [HR.out] at hc0 hr hrl
      have Hap := Lib.hid Hn.out.apart
      go_wp2_with fail
      refine restK_begin [9] (by kernel_rfl) ?_
      refine restK_take (v := ?_) 0 rfl (by kernel_rfl) (by kernel_rfl) (by kernel_rfl) (by kernel_rfl) (by kernel_rfl) (by kernel_rfl) (fun _ _ _ h => h) (by rfl) ?_ ?_
      rotate_left
      · intro w9 h9; try dsimp only at h9
        obtain ⟨x9, rfl⟩ := later_of h9
        go_simp; try with_reducible rfl
      try simp only [Act.put, List.setIfInBounds_toArray, List.set_cons_zero, List.set_cons_succ]
      refine restK_take (v := ?_) 1 rfl (by kernel_rfl) (by kernel_rfl) (by kernel_rfl) (by kernel_rfl) (by kernel_rfl) (by kernel_rfl) (fun _ _ _ h => h) (by rfl) ?_ ?_
      rotate_left
      · intro w9 h9; try dsimp only at h9
        obtain ⟨x9, rfl⟩ := later_of h9
        go_simp; try with_reducible rfl
      try simp only [Act.put, List.setIfInBounds_toArray, List.set_cons_zero, List.set_cons_succ]
      refine restK_take (v := ?_) 2 rfl (by kernel_rfl) (by kernel_rfl) (by kernel_rfl) (by kernel_rfl) (by kernel_rfl) (by kernel_rfl) (fun _ _ _ h => h) (by rfl) ?_ ?_
      rotate_left
      · intro w9 h9; try dsimp only at h9
        obtain ⟨x9, rfl⟩ := later_of h9
        go_simp; try with_reducible rfl
      try simp only [Act.put, List.setIfInBounds_toArray, List.set_cons_zero, List.set_cons_succ]
      refine restK_take (v := ?_) 3 rfl (by kernel_rfl) (by kernel_rfl) (by kernel_rfl) (by kernel_rfl) (by kernel_rfl) (by kernel_rfl) (fun _ _ _ h => h) (by rfl) ?_ ?_
      rotate_left
      · intro w9 h9; try dsimp only at h9
        obtain ⟨x9, rfl⟩ := later_of h9
        go_simp; try with_reducible rfl
      try simp only [Act.put, List.setIfInBounds_toArray, List.set_cons_zero, List.set_cons_succ]
      refine restK_take (v := ?_) 4 rfl (by kernel_rfl) (by kernel_rfl) (by kernel_rfl) (by kernel_rfl) (by kernel_rfl) (by kernel_rfl) (fun _ _ _ h => h) (by rfl) ?_ ?_
      rotate_left
      · intro w9 h9; try dsimp only at h9
        obtain ⟨x9, rfl⟩ := later_of h9
        go_simp; try with_reducible rfl
      try simp only [Act.put, List.setIfInBounds_toArray, List.set_cons_zero, List.set_cons_succ]
      refine restK_take (v := ?_) 5 rfl (by kernel_rfl) (by kernel_rfl) (by kernel_rfl) (by kernel_rfl) (by kernel_rfl) (by kernel_rfl) (fun _ _ _ h => h) (by rfl) ?_ ?_
      rotate_left
      · intro w9 h9; try dsimp only at h9
        obtain ⟨x9, rfl⟩ := later_of h9
        go_simp; try with_reducible rfl
      try simp only [Act.put, List.setIfInBounds_toArray, List.set_cons_zero, List.set_cons_succ]
      refine restK_take (v := ?_) 6 rfl (by kernel_rfl) (by kernel_rfl) (by kernel_rfl) (by kernel_rfl) (by kernel_rfl) (by kernel_rfl) (fun _ _ _ h => h) (by rfl) ?_ ?_
      rotate_left
      · intro w9 h9; try dsimp only at h9
        obtain ⟨x9, rfl⟩ := later_of h9
        go_simp; try with_reducible rfl
      try simp only [Act.put, List.setIfInBounds_toArray, List.set_cons_zero, List.set_cons_succ]
      refine restK_alone 7 rfl (by kernel_rfl) (by rfl) (fun hS K hK => ?_)
      go_wp2_with fail
      refine (c_spec_l1Copy ai ci r _ (hr.below hS) hrl).mono ?_
      rintro e w5 ⟨a2, c2, rfl, ho2, hb5⟩
      have hS5 := bl_step hb5 hS.size hS
      have Hx0 := Lib.hid ho2
      have hz5 := hb5.size
      clear ho2
      refine hK.out _ _ (hS5) ?_
      try simp only [Act.put, List.setIfInBounds_toArray, List.set_cons_zero, List.set_cons_succ]
      clear hK K hS
      clear hb5
      refine restK_alone 8 rfl (by kernel_rfl) (by rfl) (fun hS K hK => ?_)
      go_wp2_with fail
      have hS6 := hS5.alloc hS5.size (.cells (rawS.cells (a2, r.length, c2)).toArray 85)
      refine hK.out _ _ (hS6) ?_
      try simp only [Act.put, List.setIfInBounds_toArray, List.set_cons_zero, List.set_cons_succ]
      clear hK K hS
      refine restK_break 9 rfl (by kernel_rfl) (by rfl) (by kernel_rfl) (fun hS K hK => ?_)
      have hz6 := hS6.size
      simp only [World.size_alloc] at hz6
      have Hb6 : Hid (Below wr.heap.size wr (w5.alloc (.cells (rawS.cells (a2, r.length, c2)).toArray 85))) := hS6
      have Hx : Hid (Sp (ownI 2) (w5.alloc (.cells (rawS.cells (a2, r.length, c2)).toArray 85)) wr.heap.size (w5.alloc (.cells (rawS.cells (a2, r.length, c2)).toArray 85)).heap.size r (rawS.cells (a2, r.length, c2))) :=
        ((sp_of_ints Hx0.out).kp (kp_alloc (Nat.le_refl _) kp_refl)).wide (by (first | (simp; done) | (simp; omega) | omega)) (by simp)
      refine wpo_append_nest (A := ownI 2) (E := rawS) _ _ 22 (by rfl) (w.heap.size + 1 + 1 + 1) 85 j0 (.slice none 0 0) 24 Try.underlying22 hj hj0 hj1 hj2 rfl (by omega) rawS_one (by rfl) rfl (by rfl) Hn.out Hb6.out Hx.out trivial (by omega) lit_cells (by omega) (fun a3 c3 w3 hn0 hg3 => ?_)
      obtain ⟨G, hn3⟩ := hn0
      have Hn3 : Hid (Nest (ownI 2) rawS w3 (w.heap.size + 1 + 1 + 1) 85 (.slice a3 (T ++ [r]).length c3) (T ++ [r]) (rs ++ [(a2, r.length, c2)]) (Fs ++ [G])) := by
        have e : (T ++ [r]).length = T.length + 1 := by simp
        rw [Hid, e]; exact hn3
      have hB3 : Below w.heap.size w w3 := (bl_step hS6 (by omega) hbel).grown hg3 (by simp; omega) (fun q hq => by have := (Hap.out q hq).1; omega)
      have Kx : ∀ b, b < w.heap.size + 1 + 1 + 1 → b < wr.heap.size → w3.heap[b]? = wr.heap[b]? := fun b h1 h2 => (hg3.block b (by simp; omega) (fun e => by have := (Hap.out b e.symm).1; omega)).trans (Hb6.out.block b h2)
      have hz3 := hg3.size
      simp only [World.size_alloc] at hz3
      replace HBa := Lib.hid (HBa.out.kp ⟨by omega, fun k h1 h2 => Kx k (by omega) (by omega)⟩ : Bx w3 _ _)
      replace HBr := Lib.hid (HBr.out.kp ⟨by omega, fun k h1 h2 => Kx k (by omega) (by omega)⟩ : Bx w3 _ _)
      replace HBo := Lib.hid (HBo.out.kp ⟨by omega, fun k h1 h2 => Kx k (by omega) (by omega)⟩ : Bx w3 _ _)
      replace HFr := Lib.hid (HFr.out.kp ⟨by omega, fun k h1 h2 => Kx k (by omega) (by omega)⟩ : Fx w3 _)
      replace HFo := Lib.hid (HFo.out.kp ⟨by omega, fun k h1 h2 => Kx k (by omega) (by omega)⟩ : Fx w3 _)
      clear hn3 Hn Kx hc0 q0 q2 p0 p1 p2 Hb6 Hx Hx0
      refine hK.out _ _ trivial ?_
      try simp only [Act.put, List.setIfInBounds_toArray, List.set_cons_zero, List.set_cons_succ]
      clear hK K hS
      refine rest_take (v := ?_) 10 rfl (by kernel_rfl) (by kernel_rfl) (by kernel_rfl) (fun _ _ _ h => h) (by rfl) ?_ ?_
      rotate_left
      · intro w9; go_simp; try with_reducible rfl
      try simp only [Act.put, List.setIfInBounds_toArray, List.set_cons_zero, List.set_cons_succ]
      refine rest_alone' 11 rfl (by kernel_rfl) (by rfl) (fun K hK => ?_)
      have p9 := HBo.out.1
      have q1 := HBo.out.2
      have f1 := HFo.out.2
      go_wp2_with fail
      clear q1 f1 p9
      replace HBo := Lib.hid (HBo.out.set 0 (.slice a3 (T.length + 1) c3) (by simp))
      replace HFo := Lib.hid (HFo.out.set ⟨w.heap.size + 1 + 1, 0, none⟩ (.slice a3 (T.length + 1) c3))
      replace HBa := Lib.hid (HBa.out.setOther ⟨w.heap.size + 1 + 1, 0, none⟩ (.slice a3 (T.length + 1) c3) (by (first | (simp; done) | (simp; omega) | omega)))
      replace HBr := Lib.hid (HBr.out.setOther ⟨w.heap.size + 1 + 1, 0, none⟩ (.slice a3 (T.length + 1) c3) (by (first | (simp; done) | (simp; omega) | omega)))
      replace HFr := Lib.hid (HFr.out.set ⟨w.heap.size + 1 + 1, 0, none⟩ (.slice a3 (T.length + 1) c3))
      replace Hn3 := Lib.hid (Hn3.out.kp (kp_set (p := ⟨w.heap.size + 1 + 1, 0, none⟩) (u := .slice a3 (T.length + 1) c3) (by (first | (simp; done) | (simp; omega) | omega)) kp_refl))
      replace hB3 := hB3.setCell (p := ⟨w.heap.size + 1 + 1, 0, none⟩) (by simp; omega) (.slice a3 (T.length + 1) c3)
      refine hK.out _ _ trivial ?_
      try simp only [Act.put, List.setIfInBounds_toArray, List.set_cons_zero, List.set_cons_succ]
      clear hK K
      refine rest_done (by kernel_rfl) ?_
      go_wp2_with fail
      go_roundw
      case rel => exact ⟨k + 1, T ++ [r], a3, c3, _, _, by omega, by go_num, by rw [Hid, HT.out, List.take_succ_eq_append_getElem hlt, HR.out], Hn3, by rw [List.length_append]; exact HBo, HFo, HBa, HBr, HFr, hB3⟩
      case measure => simp [intOf]; omega
    · obtain rfl : k = K.length := by omega
      have e := HT.out.symm
      rw [List.take_length] at e
      subst e
      have hv3 : w.heap.size + 1 + 1 < wr.heap.size := p2
      have HK := Lib.hid Hn.out.toB
      obtain ⟨wv, Hwv⟩ : ∃ wv, Hid (wv = wr) := ⟨_, Lib.hid rfl⟩
      rw [← Hwv.out] at HK
      have e2 := Hwv.out
      subst e2
      go_wp2_with fail
      clear q0 q2 Hn Hwv hlt HT
      go_loopw [5] (fun i wr => ∃ (k : Nat) (T : List (Int × List Int)) (ao2 : Option Addr) (cap2 : Nat) (rs : List (Int × Option Addr × Nat × Nat)) (Fs : List (List Nat)), k ≤ W.length ∧ i = .int .i64 k ∧ Hid (T = W.take k) ∧
        Hid (Nest (pairE numE (ownI 2)) rawW wr wv.heap.size 124 (.slice ao2 T.length cap2) T rs Fs) ∧
        Hid (Bx wr (w.heap.size + 1 + 1) [.slice ao' K.length cap', .slice ao2 T.length cap2]) ∧ Hid (Fx wr (w.heap.size + 1 + 1)) ∧ Hid (Bx wr w.heap.size [.slice ak K.length ck, .slice aw W.length cw]) ∧
        Hid (Bx wr (w.heap.size + 1) [.slice none 0 0, .slice none 0 0]) ∧ Hid (Fx wr (w.heap.size + 1)) ∧ Hid (NestB (ownI 2) rawS wr (w.heap.size + 1 + 1 + 1) wv.heap.size 85 (.slice ao' K.length cap') K) ∧ Below w.heap.size w wr ∧ wv.heap.size ≤ wr.heap.size) (fun i _ => W.length - (intOf i).toNat)
      case atStart => exact ⟨0, [], none, 0, [], [], Nat.zero_le _, rfl, rfl, Nest.nil _ _ _, HBo, HFo, HBa, HBr, HFr, HK, hbel, Nat.le_refl _⟩
      case round =>
        clear HBo HFo HBa HBr HFr HK hbel hk
        obtain ⟨k, T, ao2, cap2, rs, Fs, hk, rfl, HT, Hn, HBo, HFo, HBa, HBr, HFr, HK, hbel, hwv⟩ := hrel
        have hsz2 := hbel.size
        replace p0 := HBa.out.1
        replace p1 := HBr.out.1
        replace p2 := HBo.out.1
        have q0 := HBa.out.2
        have q2 := HBo.out.2
        by_cases hlt : k < W.length
        · have hp : (k : Int) < (W.length : Int) := by omega
          have htl : T.length ≤ 1048576 := by rw [HT.out, List.length_take]; omega
          obtain ⟨b, off, rfl, hbl, hc⟩ := (HWr.out _ hbel).at hlt
          obtain ⟨hia, hc0, ai, ci, hcell, hr, _⟩ := hc k hlt
          have hrl := hs2 k hlt
          clear hc
          obtain ⟨a, r, HR⟩ : ∃ a r, Hid (W[k] = (a, r)) := ⟨_, _, Lib.hid rfl⟩
          rw [HR.out] at hia hc0 hcell hr hrl
          simp only at hia hc0 hcell hr hrl
          have Hap := Lib.hid Hn.out.apart
          go_wp2_with fail
          refine restK_begin [17] (by kernel_rfl) ?_
          refine restK_take (v := ?_) 0 rfl (by kernel_rfl) (by kernel_rfl) (by kernel_rfl) (by kernel_rfl) (by kernel_rfl) (by kernel_rfl) (fun _ _ _ h => h) (by rfl) ?_ ?_
          rotate_left
          · intro w9 h9; try dsimp only at h9
            obtain ⟨x9, rfl⟩ := later_of h9
            go_simp; try with_reducible rfl
          try simp only [Act.put, List.setIfInBounds_toArray, List.set_cons_zero, List.set_cons_succ]
          refine restK_take (v := ?_) 1 rfl (by kernel_rfl) (by kernel_rfl) (by kernel_rfl) (by kernel_rfl) (by kernel_rfl) (by kernel_rfl) (fun _ _ _ h => h) (by rfl) ?_ ?_
          rotate_left
          · intro w9 h9; try dsimp only at h9
            obtain ⟨x9, rfl⟩ := later_of h9
            go_simp; try with_reducible rfl
          try simp only [Act.put, List.setIfInBounds_toArray, List.set_cons_zero, List.set_cons_succ]
          refine restK_take (v := ?_) 2 rfl (by kernel_rfl) (by kernel_rfl) (by kernel_rfl) (by kernel_rfl) (by kernel_rfl) (by kernel_rfl) (fun _ _ _ h => h) (by rfl) ?_ ?_
          rotate_left
          · intro w9 h9; try dsimp only at h9
            obtain ⟨x9, rfl⟩ := later_of h9
            go_simp; try with_reducible rfl
          try simp only [Act.put, List.setIfInBounds_toArray, List.set_cons_zero, List.set_cons_succ]
          refine restK_take (v := ?_) 3 rfl (by kernel_rfl) (by kernel_rfl) (by kernel_rfl) (by kernel_rfl) (by kernel_rfl) (by kernel_rfl) (fun _ _ _ h => h) (by rfl) ?_ ?_
          rotate_left
          · intro w9 h9; try dsimp only at h9
            obtain ⟨x9, rfl⟩ := later_of h9
            go_simp; try with_reducible rfl
          try simp only [Act.put, List.setIfInBounds_toArray, List.set_cons_zero, List.set_cons_succ]
          refine restK_take (v := ?_) 4 rfl (by kernel_rfl) (by kernel_rfl) (by kernel_rfl) (by kernel_rfl) (by kernel_rfl) (by kernel_rfl) (fun _ _ _ h => h) (by rfl) ?_ ?_
          rotate_left
          · intro w9 h9; try dsimp only at h9
            obtain ⟨x9, rfl⟩ := later_of h9
            go_simp; try with_reducible rfl
          try simp only [Act.put, List.setIfInBounds_toArray, List.set_cons_zero, List.set_cons_succ]
          refine restK_take (v := ?_) 5 rfl (by kernel_rfl) (by kernel_rfl) (by kernel_rfl) (by kernel_rfl) (by kernel_rfl) (by kernel_rfl) (fun _ _ _ h => h) (by rfl) ?_ ?_
          rotate_left
          · intro w9 h9; try dsimp only at h9
            obtain ⟨x9, rfl⟩ := later_of h9
            go_simp; try with_reducible rfl
          try simp only [Act.put, List.setIfInBounds_toArray, List.set_cons_zero, List.set_cons_succ]
          refine restK_take (v := ?_) 6 rfl (by kernel_rfl) (by kernel_rfl) (by kernel_rfl) (by kernel_rfl) (by kernel_rfl) (by kernel_rfl) (fun _ _ _ h => h) (by rfl) ?_ ?_
          rotate_left
          · intro w9 h9; try dsimp only at h9
            obtain ⟨x9, rfl⟩ := later_of h9
            go_simp; try with_reducible rfl
          try simp only [Act.put, List.setIfInBounds_toArray, List.set_cons_zero, List.set_cons_succ]
          refine restK_take (v := ?_) 7 rfl (by kernel_rfl) (by kernel_rfl) (by kernel_rfl) (by kernel_rfl) (by kernel_rfl) (by kernel_rfl) (fun _ _ _ h => h) (by rfl) ?_ ?_
          rotate_left
          · intro w9 h9; try dsimp only at h9
            obtain ⟨x9, rfl⟩ := later_of h9
            go_simp; try with_reducible rfl
          try simp only [Act.put, List.setIfInBounds_toArray, List.set_cons_zero, List.set_cons_succ]
          refine restK_take (v := ?_) 8 rfl (by kernel_rfl) (by kernel_rfl) (by kernel_rfl) (by kernel_rfl) (by kernel_rfl) (by kernel_rfl) (fun _ _ _ h => h) (by rfl) ?_ ?_
          rotate_left
          · intro w9 h9; try dsimp only at h9
            obtain ⟨x9, rfl⟩ := later_of h9
            go_simp; try with_reducible rfl
          try simp only [Act.put, List.setIfInBounds_toArray, List.set_cons_zero, List.set_cons_succ]
          refine restK_take (v := ?_) 9 rfl (by kernel_rfl) (by kernel_rfl) (by kernel_rfl) (by kernel_rfl) (by kernel_rfl) (by kernel_rfl) (fun _ _ _ h => h) (by rfl) ?_ ?_
          rotate_left
          · intro w9 h9; try dsimp only at h9
            obtain ⟨x9, rfl⟩ := later_of h9
            go_simp; try with_reducible rfl
          try simp only [Act.put, List.setIfInBounds_toArray, List.set_cons_zero, List.set_cons_succ]
          refine restK_take (v := ?_) 10 rfl (by kernel_rfl) (by kernel_rfl) (by kernel_rfl) (by kernel_rfl) (by kernel_rfl) (by kernel_rfl) (fun _ _ _ h => h) (by rfl) ?_ ?_
          rotate_left
          · intro w9 h9; try dsimp only at h9
            obtain ⟨x9, rfl⟩ := later_of h9
            go_simp; try with_reducible rfl
          try simp only [Act.put, List.setIfInBounds_toArray, List.set_cons_zero, List.set_cons_succ]
          refine restK_take (v := ?_) 11 rfl (by kernel_rfl) (by kernel_rfl) (by kernel_rfl) (by kernel_rfl) (by kernel_rfl) (by kernel_rfl) (fun _ _ _ h => h) (by rfl) ?_ ?_
          rotate_left
          · intro w9 h9; try dsimp only at h9
            obtain ⟨x9, rfl⟩ := later_of h9
            go_simp; try with_reducible rfl
          try simp only [Act.put, List.setIfInBounds_toArray, List.set_cons_zero, List.set_cons_succ]
          refine restK_take (v := ?_) 12 rfl (by kernel_rfl) (by kernel_rfl) (by kernel_rfl) (by kernel_rfl) (by kernel_rfl) (by kernel_rfl) (fun _ _ _ h => h) (by rfl) ?_ ?_
          rotate_left
          · intro w9 h9; try dsimp only at h9
            obtain ⟨x9, rfl⟩ := later_of h9
            go_simp; try with_reducible rfl
          try simp only [Act.put, List.setIfInBounds_toArray, List.set_cons_zero, List.set_cons_succ]
          refine restK_take (v := ?_) 13 rfl (by kernel_rfl) (by kernel_rfl) (by kernel_rfl) (by kernel_rfl) (by kernel_rfl) (by kernel_rfl) (fun _ _ _ h => h) (by rfl) ?_ ?_
          rotate_left
          · intro w9 h9; try dsimp only at h9
            obtain ⟨x9, rfl⟩ := later_of h9
            go_simp; try with_reducible rfl
          try simp only [Act.put, List.setIfInBounds_toArray, List.set_cons_zero, List.set_cons_succ]
          refine restK_alone 14 rfl (by kernel_rfl) (by rfl) (fun hS K hK => ?_)
          go_wp2_with fail
          refine (c_spec_l1Copy ai ci r _ (hr.below hS) hrl).mono ?_
          rintro e w5 ⟨a2, c2, rfl, ho2, hb5⟩
          have hS5 := bl_step hb5 hS.size hS
          have Hx0 := Lib.hid ho2
          have hz5 := hb5.size
          clear ho2
          refine hK.out _ _ (hS5) ?_
          try simp only [Act.put, List.setIfInBounds_toArray, List.set_cons_zero, List.set_cons_succ]
          clear hK K hS
          clear hb5
          refine restK_take (v := ?_) 15 rfl (by kernel_rfl) (by kernel_rfl) (by kernel_rfl) (by kernel_rfl) (by kernel_rfl) (by kernel_rfl) (fun _ _ _ h => h) (by rfl) ?_ ?_
          rotate_left
          · intro w9 h9; try dsimp only at h9
            obtain ⟨x9, rfl⟩ := later_of h9
            go_simp; try with_reducible rfl
          try simp only [Act.put, List.setIfInBounds_toArray, List.set_cons_zero, List.set_cons_succ]
          refine restK_alone 16 rfl (by kernel_rfl) (by rfl) (fun hS K hK => ?_)
          go_wp2_with fail
          have hS6 := hS5.alloc hS5.size (.cells (rawW.cells (a, a2, r.length, c2)).toArray 124)
          refine hK.out _ _ (hS6) ?_
          try simp only [Act.put, List.setIfInBounds_toArray, List.set_cons_zero, List.set_cons_succ]
          clear hK K hS
          refine restK_break 17 rfl (by kernel_rfl) (by rfl) (by kernel_rfl) (fun hS K hK => ?_)
          have hz6 := hS6.size
          simp only [World.size_alloc] at hz6
          have Hb6 : Hid (Below wr.heap.size wr (w5.alloc (.cells (rawW.cells (a, a2, r.length, c2)).toArray 124))) := hS6
          have Hx : Hid (Sp (pairE numE (ownI 2)) (w5.alloc (.cells (rawW.cells (a, a2, r.length, c2)).toArray 124)) wr.heap.size (w5.alloc (.cells (rawW.cells (a, a2, r.length, c2)).toArray 124)).heap.size (a, r) (rawW.cells (a, a2, r.length, c2))) :=
            sp_write hia (((sp_of_ints Hx0.out).kp (kp_alloc (Nat.le_refl _) kp_refl)).wide (by (first | (simp; done) | (simp; omega) | omega)) (by simp))
          refine wpo_append_nest (A := pairE numE (ownI 2)) (E := rawW) _ _ 33 (by rfl) wv.heap.size 124 i0 (.agg #[.int .i64 0, .slice none 0 0]) 32 Try.underlying33 hi hz0 hz1 hz2 rfl (by omega) rawW_one (by rfl) rfl (by rfl) Hn.out Hb6.out Hx.out trivial (by omega) lit_cells (by omega) (fun a3 c3 w3 hn0 hg3 => ?_)
          obtain ⟨G, hn3⟩ := hn0
          have Hn3 : Hid (Nest (pairE numE (ownI 2)) rawW w3 wv.heap.size 124 (.slice a3 (T ++ [(a, r)]).length c3) (T ++ [(a, r)]) (rs ++ [(a, a2, r.length, c2)]) (Fs ++ [G])) := by
            have e : (T ++ [(a, r)]).length = T.length + 1 := by simp
            rw [Hid, e]; exact hn3
          have hB3 : Below w.heap.size w w3 := (bl_step hS6 (by omega) hbel).grown hg3 (by simp; omega) (fun q hq => by have := (Hap.out q hq).1; omega)
          have Kx : ∀ b, b < wv.heap.size → b < wr.heap.size → w3.heap[b]? = wr.heap[b]? := fun b h1 h2 => (hg3.block b (by simp; omega) (fun e => by have := (Hap.out b e.symm).1; omega)).trans (Hb6.out.block b h2)
          have hz3 := hg3.size
          simp only [World.size_alloc] at hz3
          replace HBa := Lib.hid (HBa.out.kp ⟨by omega, fun k h1 h2 => Kx k (by omega) (by omega)⟩ : Bx w3 _ _)
          replace HBr := Lib.hid (HBr.out.kp ⟨by omega, fun k h1 h2 => Kx k (by omega) (by omega)⟩ : Bx w3 _ _)
          replace HBo := Lib.hid (HBo.out.kp ⟨by omega, fun k h1 h2 => Kx k (by omega) (by omega)⟩ : Bx w3 _ _)
          replace HFr := Lib.hid (HFr.out.kp ⟨by omega, fun k h1 h2 => Kx k (by omega) (by omega)⟩ : Fx w3 _)
          replace HFo := Lib.hid (HFo.out.kp ⟨by omega, fun k h1 h2 => Kx k (by omega) (by omega)⟩ : Fx w3 _)
          replace HK := Lib.hid (HK.out.kp ⟨by omega, fun k h1 h2 => Kx k (by omega) (by omega)⟩ : NestB (ownI 2) rawS w3 _ _ _ _ _)
          clear hn3 Hn Kx hc0 hcell q0 q2 p0 p1 p2 Hb6 Hx Hx0
          refine hK.out _ _ trivial ?_
          try simp only [Act.put, List.setIfInBounds_toArray, List.set_cons_zero, List.set_cons_succ]
          clear hK K hS
          refine rest_take (v := ?_) 18 rfl (by kernel_rfl) (by kernel_rfl) (by kernel_rfl) (fun _ _ _ h => h) (by rfl) ?_ ?_
          rotate_left
          · intro w9; go_simp; try with_reducible rfl
          try simp only [Act.put, List.setIfInBounds_toArray, List.set_cons_zero, List.set_cons_succ]
          refine rest_alone' 19 rfl (by kernel_rfl) (by rfl) (fun K hK => ?_)
          have p9 := HBo.out.1
          have q1 := HBo.out.2
          have f1 := HFo.out.2
          go_wp2_with fail
          clear q1 f1 p9
          replace HBo := Lib.hid (HBo.out.set 1 (.slice a3 (T.length + 1) c3) (by simp))
          replace HFo := Lib.hid (HFo.out.set ⟨w.heap.size + 1 + 1, 1, none⟩ (.slice a3 (T.length + 1) c3))
          replace HBa := Lib.hid (HBa.out.setOther ⟨w.heap.size + 1 + 1, 1, none⟩ (.slice a3 (T.length + 1) c3) (by (first | (simp; done) | (simp; omega) | omega)))
          replace HBr := Lib.hid (HBr.out.setOther ⟨w.heap.size + 1 + 1, 1, none⟩ (.slice a3 (T.length + 1) c3) (by (first | (simp; done) | (simp; omega) | omega)))
          replace HFr := Lib.hid (HFr.out.set ⟨w.heap.size + 1 + 1, 1, none⟩ (.slice a3 (T.length + 1) c3))
          replace HK := Lib.hid (HK.out.kp (kp_set (p := ⟨w.heap.size + 1 + 1, 1, none⟩) (u := .slice a3 (T.length + 1) c3) (by (first | (simp; done) | (simp; omega) | omega)) kp_refl))
          replace Hn3 := Lib.hid (Hn3.out.kp (kp_set (p := ⟨w.heap.size + 1 + 1, 1, none⟩) (u := .slice a3 (T.length + 1) c3) (by (first | (simp; done) | (simp; omega) | omega)) kp_refl))
          replace hB3 := hB3.setCell (p := ⟨w.heap.size + 1 + 1, 1, none⟩) (by simp; omega) (.slice a3 (T.length + 1) c3)
          refine hK.out _ _ trivial ?_
          try simp only [Act.put, List.setIfInBounds_toArray, List.set_cons_zero, List.set_cons_succ]
          clear hK K
          refine rest_done (by kernel_rfl) ?_
          go_wp2_with fail
          go_roundw
          case rel => exact ⟨k + 1, T ++ [(a, r)], a3, c3, _, _, by omega, by go_num, by rw [Hid, HT.out, List.take_succ_eq_append_getElem hlt, HR.out], Hn3, by rw [List.length_append]; exact HBo, HFo, HBa, HBr, HFr, HK, hB3, by (first | (simp; done) | (simp; omega) | omega)⟩
          case measure => simp [intOf]; omega
        · obtain rfl : k = W.length := by omega
          have e := HT.out.symm
          rw [List.take_length] at e
          subst e
          have q1 := HBr.out.2
          have f1 := HFr.out.2
          go_wp2_with fail
          refine bodyPost_ret (v := .agg #[.slice ao' K.length cap', .slice ao2 W.length cap2]) (by simp [results, Try.results80, go_sem, *]) rfl ⟨ao', cap', ao2, cap2, rfl, ?_, ?_⟩
          · exact ⟨wv.heap.size, by omega, by (first | (simp; done) | (simp; omega) | omega), (HK.out.kp (by (repeat (first | with_reducible exact kp_refl | ((with_reducible refine kp_alloc ?_ ?_); (focus (first | (simp; done) | (simp; omega) | omega))) | ((with_reducible refine kp_set ?_ ?_); (focus (first | (simp; done) | (simp; omega) | omega))) | with_reducible refine kp_drew ?_ | with_reducible refine kp_drewN ?_ | ((with_reducible refine kp_step (by assumption) ?_ ?_); (focus (first | (simp; done) | (simp; omega) | omega))))))).wide (by omega) (by omega), (Hn.out.toB.kp (by (repeat (first | with_reducible exact kp_refl | ((with_reducible refine kp_alloc ?_ ?_); (focus (first | (simp; done) | (simp; omega) | omega))) | ((with_reducible refine kp_set ?_ ?_); (focus (first | (simp; done) | (simp; omega) | omega))) | with_reducible refine kp_drew ?_ | with_reducible refine kp_drewN ?_ | ((with_reducible refine kp_step (by assumption) ?_ ?_); (focus (first | (simp; done) | (simp; omega) | omega))))))).wide (by omega) (by (first | (simp; done) | (simp; omega) | omega))⟩
          · (repeat (first | with_reducible exact Below.refl _ _ | ((with_reducible refine bl_alloc ?_ ?_); (focus (first | (simp; done) | (simp; omega) | omega))) | ((with_reducible refine bl_set ?_ ?_); (focus (first | (simp; done) | (simp; omega) | omega))) | ((with_reducible refine bl_later ?_ ?_); (focus (first | (simp; done) | (simp; omega) | omega))) | with_reducible refine bl_drew ?_ | with_reducible refine bl_drewN ?_ | ((with_reducible refine bl_step (by assumption) ?_ ?_); (focus (first | (simp; done) | (simp; omega) | omega)))))

end Go.Proofs.Ytmjafclpeknpcaa
