/- Walks of functions of the program, printed by a program of the prover. -/
import Derived.Test.YtmjafclpeknpcaaNCopy1
import Derived.WalkKit
import Derived.WalkSpells
import Derived.Deep.QuietTactic
import Derived.BigQuiet
import Derived.Deep.Light
import Derived.Lib.Hide
import Derived.IntWalk
namespace Go.Proofs.Ytmjafclpeknpcaa
open Go.ChangeShapes Go.WideShapes Go.ChangeAt Go.RowKit Go.Deep
set_option maxHeartbeats 1600000
set_option maxRecDepth 100000

theorem Fx.kp {w w' : World} {b : Nat} (h : Fx w b) (k : Kp b (b + 1) w w') : Fx w' b :=
  ⟨Nat.lt_of_lt_of_le h.1 k.size, fun o => (World.frozen?_of_block (k.block b (Nat.le_refl _) (Nat.lt_succ_self _))).trans (h.2 o)⟩
def DiskB (d : List (List Int) × List (Int × List Int)) : Prop := d.1.length ≤ 1048576 ∧ (∀ k (h : k < d.1.length), d.1[k].length ≤ 1048576) ∧ d.2.length ≤ 1048576 ∧ ∀ k (h : k < d.2.length), d.2[k].2.length ≤ 1048576
theorem c_impl_copyDisk (ak aw : Option Addr) (ck cw : Nat) (d : List (List Int) × List (Int × List Int)) (w : World) (h : DiskR w ak aw d) (hI : DiskB d) :
    Calls Try.prog 139 #[.agg #[.slice ak d.1.length ck, .slice aw d.2.length cw]] w fun e w' => ∃ a1 c1 a2 c2, e = .returned (.agg #[.slice a1 d.1.length c1, .slice a2 d.2.length c2]) ∧ DiskOwn w' w.heap.size w'.heap.size d a1 c1 a2 c2 ∧ Below w.heap.size w w' := by
  obtain ⟨K, W⟩ := d
  have hwm : W.length ≤ 9223372036854775807 := h.2.1
  obtain ⟨hl1, hs1, hl2, hs2⟩ := hI
  simp only at hl1 hs1 hl2 hs2
  obtain ⟨i0, hi, hz0, hz1, hz2⟩ := info_parts info_write
  have HKr : Hid (∀ V, Below w.heap.size w V → RowsR V ak K) := fun V hb => h.1.below hb
  have HWr : Hid (∀ V, Below w.heap.size w V → WritesR V aw W) := fun V hb => h.2.below hb
  clear h
  have hA0 := ((Bx.new w [.slice ak K.length ck, .slice aw W.length cw] 35).alloc (.cells #[.slice none 0 0, .slice none 0 0] 35))
  have hR0 := Bx.new (w.alloc (.cells #[.slice ak K.length ck, .slice aw W.length cw] 35)) [.slice none 0 0, .slice none 0 0] 35
  have hG0 := Fx.new (w.alloc (.cells #[.slice ak K.length ck, .slice aw W.length cw] 35)) [.slice none 0 0, .slice none 0 0] 35
  have HA0 := Lib.hid hA0
  have HR0 := Lib.hid hR0
  have HG0 := Lib.hid hG0
  clear hA0 hR0 hG0
  go_enter Try.func139, Try.ntmps139
  go_wp2_with fail
  refine (c_impl_copyRows ak ck K _ (HKr.out _ (by (repeat (first | with_reducible exact Below.refl _ _ | ((with_reducible refine bl_alloc ?_ ?_); (focus (first | (simp; done) | (simp; omega) | omega))) | ((with_reducible refine bl_set ?_ ?_); (focus (first | (simp; done) | (simp; omega) | omega))) | ((with_reducible refine bl_later ?_ ?_); (focus (first | (simp; done) | (simp; omega) | omega))) | with_reducible refine bl_drew ?_ | with_reducible refine bl_drewN ?_ | ((with_reducible refine bl_step (by assumption) ?_ ?_); (focus (first | (simp; done) | (simp; omega) | omega))))))) hl1 hs1).mono ?_
  rintro e w1 ⟨a1, c1, rfl, hsp, hb1⟩
  have hz1' := hb1.size
  simp only [World.size_alloc] at hz1'
  have hBw1 : Below w.heap.size w w1 := by (repeat (first | with_reducible exact Below.refl _ _ | ((with_reducible refine bl_alloc ?_ ?_); (focus (first | (simp; done) | (simp; omega) | omega))) | ((with_reducible refine bl_set ?_ ?_); (focus (first | (simp; done) | (simp; omega) | omega))) | ((with_reducible refine bl_later ?_ ?_); (focus (first | (simp; done) | (simp; omega) | omega))) | with_reducible refine bl_drew ?_ | with_reducible refine bl_drewN ?_ | ((with_reducible refine bl_step (by assumption) ?_ ?_); (focus (first | (simp; done) | (simp; omega) | omega)))))
  have HA1 := Lib.hid ((HA0.out.below hb1).alloc (.cells #[.slice a1 K.length c1, .slice none 0 0] 35))
  have HR1 := Lib.hid ((HR0.out.below hb1).alloc (.cells #[.slice a1 K.length c1, .slice none 0 0] 35))
  have HG1 := Lib.hid ((HG0.out.below hb1).alloc (.cells #[.slice a1 K.length c1, .slice none 0 0] 35))
  have HO1 := Lib.hid (Bx.new w1 [.slice a1 K.length c1, .slice none 0 0] 35)
  have HF1 := Lib.hid (Fx.new w1 [.slice a1 K.length c1, .slice none 0 0] 35)
  have HK1 := Lib.hid (hsp.kp (kp_alloc (o := .cells #[.slice a1 K.length c1, .slice none 0 0] 35) (Nat.le_refl _) kp_refl))
  have hB1 : Below w.heap.size w (w1.alloc (.cells #[.slice a1 K.length c1, .slice none 0 0] 35)) := hBw1.alloc (by omega) _
  clear hsp HA0 HR0 HG0
  have qa := (HA1.out.below (Below.refl _ _)).2
  obtain ⟨hc0, hf0, hq0⟩ := bcell hb1
  clear hf0 hq0
  have qc := fun (o : Nat) => hb1.cell (p := ⟨w.heap.size, o, none⟩) (by (first | (simp; done) | (simp; omega) | omega))
  clear qa hc0
  have hl0 : w.heap.size < w1.heap.size := by omega
  go_wp2_with fail
  clear qc
  simp only [World.size_alloc] at HK1 HR1 HG1
  go_loopw [13] (fun i wr => ∃ (k : Nat) (T : List (Int × List Int)) (ao' : Option Addr) (cap' : Nat) (rs : List (Int × Option Addr × Nat × Nat)) (Fs : List (List Nat)), k ≤ W.length ∧ i = .int .i64 k ∧ Hid (T = W.take k) ∧
    Hid (Nest (pairE numE (ownI 2)) rawW wr (w1.heap.size + 1) 124 (.slice ao' T.length cap') T rs Fs) ∧
    Hid (Bx wr w1.heap.size [.slice a1 K.length c1, .slice ao' T.length cap']) ∧ Hid (Fx wr w1.heap.size) ∧ Hid (Bx wr w.heap.size [.slice ak K.length ck, .slice aw W.length cw]) ∧
    Hid (Bx wr (w.heap.size + 1) [.slice none 0 0, .slice none 0 0]) ∧ Hid (Fx wr (w.heap.size + 1)) ∧ Hid (NestB (ownI 2) rawS wr (w.heap.size + 1 + 1) w1.heap.size 85 (.slice a1 K.length c1) K) ∧ Below w.heap.size w wr) (fun i _ => W.length - (intOf i).toNat)
  case atStart => exact ⟨0, [], none, 0, [], [], Nat.zero_le _, rfl, rfl, Nest.nil _ _ _, HO1, HF1, HA1, HR1, HG1, HK1, hB1⟩
  case round =>
    obtain ⟨k, T, ao', cap', rs, Fs, hk, rfl, HT, Hn, HBo, HFo, HBa, HBr, HFr, HK, hbel⟩ := hrel
    clear HA1 HR1 HG1 HO1 HF1 HK1 hB1 hBw1
    have hsz := hbel.size
    have p0 := HBa.out.1
    have p1 := HBr.out.1
    have p2 := HBo.out.1
    by_cases hlt : k < W.length
    · have hp : (k : Int) < (W.length : Int) := by omega
      have htl : T.length ≤ 1048576 := by rw [HT.out, List.length_take]; omega
      obtain ⟨b, off, rfl, hbl, hc⟩ := (HWr.out _ hbel).at hlt
      obtain ⟨hia, hc0, ai, ci, hcell, hr, _⟩ := hc k hlt
      have hrl := hs2 k hlt
      clear hc
      obtain ⟨a, r, HR⟩ : ∃ a r, Hid (W[k] = (a, r)) := ⟨_, _, Lib.hid rfl⟩
      rw [HR.out] at hia hc0 hcell hr hrl
      simp only at hia hc0 hcell hr hrl
      have Hap := Lib.hid Hn.out.apart
      have q0 := HBa.out.2
      have q2 := HBo.out.2
      have hb0 : w1.heap.size < wr.heap.size + 1 := by omega
      replace hr : IntsR (wr.alloc (.cells #[.int .i64 a, .slice ai r.length ci] 124)) ai r := hr.below ((Below.refl _ _).alloc (Nat.le_refl _) _)
      go_wp2_with fail
      refine restK_begin [9] (by kernel_rfl) ?_
      refine restK_take (v := ?_) 0 rfl (by kernel_rfl) (by kernel_rfl) (by kernel_rfl) (by kernel_rfl) (by kernel_rfl) (by kernel_rfl) (fun _ _ _ h => h) (by rfl) ?_ ?_
      rotate_left
      · intro w9 h9; try dsimp only at h9
        obtain ⟨x9, rfl⟩ := later_of h9
        go_simp; try with_reducible rfl
      try simp only [Act.put, List.setIfInBounds_toArray, List.set_cons_zero, List.set_cons_succ]
      refine restK_take (v := ?_) 1 rfl (by kernel_rfl) (by kernel_rfl) (by kernel_rfl) (by kernel_rfl) (by kernel_rfl) (by kernel_rfl) (fun _ _ _ h => h) (by rfl) ?_ ?_
      rotate_left
      · intro w9 h9; try dsimp only at h9
        obtain ⟨x9, rfl⟩ := later_of h9
        go_simp; try with_reducible rfl
      try simp only [Act.put, List.setIfInBounds_toArray, List.set_cons_zero, List.set_cons_succ]
      refine restK_take (v := ?_) 2 rfl (by kernel_rfl) (by kernel_rfl) (by kernel_rfl) (by kernel_rfl) (by kernel_rfl) (by kernel_rfl) (fun _ _ _ h => h) (by rfl) ?_ ?_
      rotate_left
      · intro w9 h9; try dsimp only at h9
        obtain ⟨x9, rfl⟩ := later_of h9
        go_simp; try with_reducible rfl
      try simp only [Act.put, List.setIfInBounds_toArray, List.set_cons_zero, List.set_cons_succ]
      refine restK_take (v := ?_) 3 rfl (by kernel_rfl) (by kernel_rfl) (by kernel_rfl) (by kernel_rfl) (by kernel_rfl) (by kernel_rfl) (fun _ _ _ h => h) (by rfl) ?_ ?_
      rotate_left
      · intro w9 h9; try dsimp only at h9
        obtain ⟨x9, rfl⟩ := later_of h9
        go_simp; try with_reducible rfl
      try simp only [Act.put, List.setIfInBounds_toArray, List.set_cons_zero, List.set_cons_succ]
      refine restK_take (v := ?_) 4 rfl (by kernel_rfl) (by kernel_rfl) (by kernel_rfl) (by kernel_rfl) (by kernel_rfl) (by kernel_rfl) (fun _ _ _ h => h) (by rfl) ?_ ?_
      rotate_left
      · intro w9 h9; try dsimp only at h9
        obtain ⟨x9, rfl⟩ := later_of h9
        go_simp; try with_reducible rfl
      try simp only [Act.put, List.setIfInBounds_toArray, List.set_cons_zero, List.set_cons_succ]
      refine restK_take (v := ?_) 5 rfl (by kernel_rfl) (by kernel_rfl) (by kernel_rfl) (by kernel_rfl) (by kernel_rfl) (by kernel_rfl) (fun _ _ _ h => h) (by rfl) ?_ ?_
      rotate_left
      · intro w9 h9; try dsimp only at h9
        obtain ⟨x9, rfl⟩ := later_of h9
        go_simp; try with_reducible rfl
      try simp only [Act.put, List.setIfInBounds_toArray, List.set_cons_zero, List.set_cons_succ]
      refine restK_alone 6 rfl (by kernel_rfl) (by rfl) (fun hS K hK => ?_)
      go_wp2_with fail
      refine (c_impl_copyRow ai ci r _ (hr.below hS) hrl).mono ?_
      rintro e w5 ⟨a2, c2, rfl, ho2, hb5⟩
      have hS5 := bl_step hb5 hS.size hS
      have Hx0 := Lib.hid ho2
      have hz5 := hb5.size
      clear ho2
      refine hK.out _ _ (hS5) ?_
      try simp only [Act.put, List.setIfInBounds_toArray, List.set_cons_zero, List.set_cons_succ]
      clear hK K hS
      clear hb5
      refine restK_take (v := ?_) 7 rfl (by kernel_rfl) (by kernel_rfl) (by kernel_rfl) (by kernel_rfl) (by kernel_rfl) (by kernel_rfl) (fun _ _ _ h => h) (by rfl) ?_ ?_
      rotate_left
      · intro w9 h9; try dsimp only at h9
        obtain ⟨x9, rfl⟩ := later_of h9
        go_simp; try with_reducible rfl
      try simp only [Act.put, List.setIfInBounds_toArray, List.set_cons_zero, List.set_cons_succ]
      refine restK_alone 8 rfl (by kernel_rfl) (by rfl) (fun hS K hK => ?_)
      go_wp2_with fail
      have hS6 := hS5.alloc hS5.size (.cells (rawW.cells (a, a2, r.length, c2)).toArray 124)
      refine hK.out _ _ (hS6) ?_
      try simp only [Act.put, List.setIfInBounds_toArray, List.set_cons_zero, List.set_cons_succ]
      clear hK K hS
      refine restK_break 9 rfl (by kernel_rfl) (by rfl) (by kernel_rfl) (fun hS K hK => ?_)
      have hz6 := hS6.size
      simp only [World.size_alloc] at hz6
      have Hb6 : Hid (Below wr.heap.size wr (w5.alloc (.cells (rawW.cells (a, a2, r.length, c2)).toArray 124))) := bl_step hS6 (by simp) ((Below.refl _ _).alloc (Nat.le_refl _) _)
      have Hx : Hid (Sp (pairE numE (ownI 2)) (w5.alloc (.cells (rawW.cells (a, a2, r.length, c2)).toArray 124)) wr.heap.size (w5.alloc (.cells (rawW.cells (a, a2, r.length, c2)).toArray 124)).heap.size (a, r) (rawW.cells (a, a2, r.length, c2))) :=
        sp_write hia (((sp_of_ints Hx0.out).kp (kp_alloc (Nat.le_refl _) kp_refl)).wide (by (first | (simp; done) | (simp; omega) | omega)) (by simp))
      refine wpo_append_nest (A := pairE numE (ownI 2)) (E := rawW) _ _ 33 (by rfl) (w1.heap.size + 1) 124 i0 (.agg #[.int .i64 0, .slice none 0 0]) 32 Try.underlying33 hi hz0 hz1 hz2 rfl (by omega) rawW_one (by rfl) rfl (by rfl) Hn.out Hb6.out Hx.out trivial (by omega) lit_cells (by omega) (fun a3 c3 w3 hn0 hg3 => ?_)
      obtain ⟨G, hn3⟩ := hn0
      have Hn3 : Hid (Nest (pairE numE (ownI 2)) rawW w3 (w1.heap.size + 1) 124 (.slice a3 (T ++ [(a, r)]).length c3) (T ++ [(a, r)]) (rs ++ [(a, a2, r.length, c2)]) (Fs ++ [G])) := by
        have e : (T ++ [(a, r)]).length = T.length + 1 := by simp
        rw [Hid, e]; exact hn3
      have hB3 : Below w.heap.size w w3 := (bl_step hS6 (by simp; omega) (hbel.alloc (by omega) _)).grown hg3 (by simp; omega) (fun q hq => by have := (Hap.out q hq).1; omega)
      have Kx : ∀ b, b < w1.heap.size + 1 → b < wr.heap.size → w3.heap[b]? = wr.heap[b]? := fun b h1 h2 => (hg3.block b (by simp; omega) (fun e => by have := (Hap.out b e.symm).1; omega)).trans (Hb6.out.block b h2)
      have hz3 := hg3.size
      simp only [World.size_alloc] at hz3
      replace HBa := Lib.hid (HBa.out.kp ⟨by omega, fun k h1 h2 => Kx k (by omega) (by omega)⟩ : Bx w3 _ _)
      replace HBr := Lib.hid (HBr.out.kp ⟨by omega, fun k h1 h2 => Kx k (by omega) (by omega)⟩ : Bx w3 _ _)
      replace HBo := Lib.hid (HBo.out.kp ⟨by omega, fun k h1 h2 => Kx k (by omega) (by omega)⟩ : Bx w3 _ _)
      replace HFr := Lib.hid (HFr.out.kp ⟨by omega, fun k h1 h2 => Kx k (by omega) (by omega)⟩ : Fx w3 _)
      replace HFo := Lib.hid (HFo.out.kp ⟨by omega, fun k h1 h2 => Kx k (by omega) (by omega)⟩ : Fx w3 _)
      replace HK := Lib.hid (HK.out.kp ⟨by omega, fun k h1 h2 => Kx k (by omega) (by omega)⟩ : NestB (ownI 2) rawS w3 _ _ _ _ _)
      clear hn3 Hn Kx hb0 hc0 hcell q0 q2 p0 p1 p2 Hb6 Hx Hx0
      refine hK.out _ _ trivial ?_
      try simp only [Act.put, List.setIfInBounds_toArray, List.set_cons_zero, List.set_cons_succ]
      clear hK K hS
      refine rest_take (v := ?_) 10 rfl (by kernel_rfl) (by kernel_rfl) (by kernel_rfl) (fun _ _ _ h => h) (by rfl) ?_ ?_
      rotate_left
      · intro w9; go_simp; try with_reducible rfl
      try simp only [Act.put, List.setIfInBounds_toArray, List.set_cons_zero, List.set_cons_succ]
      refine rest_alone' 11 rfl (by kernel_rfl) (by rfl) (fun K hK => ?_)
      have p1 := HBo.out.1
      have q1 := HBo.out.2
      have f1 := HFo.out.2
      go_wp2_with fail
      clear q1 f1
      replace HBo := Lib.hid (HBo.out.set 1 (.slice a3 (T.length + 1) c3) (by simp))
      replace HFo := Lib.hid (HFo.out.set ⟨w1.heap.size, 1, none⟩ (.slice a3 (T.length + 1) c3))
      replace HBa := Lib.hid (HBa.out.setOther ⟨w1.heap.size, 1, none⟩ (.slice a3 (T.length + 1) c3) (by simp; omega))
      replace HBr := Lib.hid (HBr.out.setOther ⟨w1.heap.size, 1, none⟩ (.slice a3 (T.length + 1) c3) (by simp; omega))
      replace HFr := Lib.hid (HFr.out.set ⟨w1.heap.size, 1, none⟩ (.slice a3 (T.length + 1) c3))
      replace HK := Lib.hid (HK.out.kp (kp_set (p := ⟨w1.heap.size, 1, none⟩) (u := .slice a3 (T.length + 1) c3) (.inr (Nat.le_refl _)) kp_refl))
      replace Hn3 := Lib.hid (Hn3.out.kp (kp_set (p := ⟨w1.heap.size, 1, none⟩) (u := .slice a3 (T.length + 1) c3) (.inl (by simp)) kp_refl))
      replace hB3 := hB3.setCell (p := ⟨w1.heap.size, 1, none⟩) (by simp; omega) (.slice a3 (T.length + 1) c3)
      refine hK.out _ _ trivial ?_
      try simp only [Act.put, List.setIfInBounds_toArray, List.set_cons_zero, List.set_cons_succ]
      clear hK K
      refine rest_done (by kernel_rfl) ?_
      go_wp2_with fail
      go_roundw
      case rel => exact ⟨k + 1, T ++ [(a, r)], a3, c3, _, _, by omega, by go_num, by rw [Hid, HT.out, List.take_succ_eq_append_getElem hlt, HR.out], Hn3, by rw [List.length_append]; exact HBo, HFo, HBa, HBr, HFr, HK, hB3⟩
      case measure => simp [intOf]; omega
    · obtain rfl : k = W.length := by omega
      have e := HT.out
      rw [List.take_length] at e
      subst e
      have q1 := HBr.out.2
      have f1 := HFr.out.2
      have q2 := HBo.out.2
      go_wp2_with fail
      refine bodyPost_ret (v := .agg #[.slice a1 K.length c1, .slice ao' T.length cap']) (by simp [results, Try.results139, go_sem, *]) rfl ⟨a1, c1, ao', cap', rfl, ?_, ?_⟩
      · exact ⟨w1.heap.size + 1, by omega, by (first | (simp; done) | (simp; omega) | omega), (HK.out.kp (by (repeat (first | with_reducible exact kp_refl | ((with_reducible refine kp_alloc ?_ ?_); (focus (first | (simp; done) | (simp; omega) | omega))) | ((with_reducible refine kp_set ?_ ?_); (focus (first | (simp; done) | (simp; omega) | omega))) | with_reducible refine kp_drew ?_ | with_reducible refine kp_drewN ?_ | ((with_reducible refine kp_step (by assumption) ?_ ?_); (focus (first | (simp; done) | (simp; omega) | omega))))))).wide (by omega) (by omega), (Hn.out.toB.kp (by (repeat (first | with_reducible exact kp_refl | ((with_reducible refine kp_alloc ?_ ?_); (focus (first | (simp; done) | (simp; omega) | omega))) | ((with_reducible refine kp_set ?_ ?_); (focus (first | (simp; done) | (simp; omega) | omega))) | with_reducible refine kp_drew ?_ | with_reducible refine kp_drewN ?_ | ((with_reducible refine kp_step (by assumption) ?_ ?_); (focus (first | (simp; done) | (simp; omega) | omega))))))).wide (by omega) (by (first | (simp; done) | (simp; omega) | omega))⟩
      · (repeat (first | with_reducible exact Below.refl _ _ | ((with_reducible refine bl_alloc ?_ ?_); (focus (first | (simp; done) | (simp; omega) | omega))) | ((with_reducible refine bl_set ?_ ?_); (focus (first | (simp; done) | (simp; omega) | omega))) | ((with_reducible refine bl_later ?_ ?_); (focus (first | (simp; done) | (simp; omega) | omega))) | with_reducible refine bl_drew ?_ | with_reducible refine bl_drewN ?_ | ((with_reducible refine bl_step (by assumption) ?_ ?_); (focus (first | (simp; done) | (simp; omega) | omega)))))

end Go.Proofs.Ytmjafclpeknpcaa
