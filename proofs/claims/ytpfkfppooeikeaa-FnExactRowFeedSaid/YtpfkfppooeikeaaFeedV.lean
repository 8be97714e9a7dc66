/- Walks of functions of the program, printed by a program of the prover. -/
import Derived.Test.YtpfkfppooeikeaaFeedC
import Derived.Test.YtpfkfppooeikeaaEntRowS
import Derived.WalkKit
import Derived.WalkSpells
import Derived.Deep.QuietTactic
import Derived.BigQuiet
import Derived.Deep.Light
import Derived.Lib.Hide
import Derived.Deep.RegionHeld3
namespace Go.Proofs.Ytpfkfppooeikeaa
open Go.ChangeShapes Go.WideShapes Go.ChangeAt Go.RowKit Go.Deep
set_option maxHeartbeats 1600000
set_option maxRecDepth 100000
theorem c_spec_RowFeed_bad (ao : Option Addr) (cap : Nat) (l : List Int) (w : World) (hh : IntsR w ao l) (hbad : l.length < 3 ∨ 30 < l.length ∨ l.length % 9 ≠ 3 ∨ l.headD 0 ≠ 4) :
    Calls Try.prog 94 #[.slice ao l.length cap] w fun e w' => e = .returned (.tuple #[.agg #[.int .i64 0, .int .i64 0, .slice none 0 0], .bool false]) ∧ Below w.heap.size w w' := by
  have hm := hh.2.1
  by_cases h1 : l.length < 3
  · have e1 : decide ((l.length : Int) < 3) = true := by simp; omega
    go_enter Try.func94, Try.ntmps94
    go_wp2_with fail
    refine bodyPost_ret (v := .tuple #[.agg #[.int .i64 0, .int .i64 0, .slice none 0 0], .bool false]) (by simp [results, Try.results94, go_sem, *]) rfl ⟨rfl, ?_⟩
    (repeat (first | with_reducible exact Below.refl _ _ | ((with_reducible refine bl_alloc ?_ ?_); (focus (first | (simp; done) | (simp; omega) | omega))) | ((with_reducible refine bl_set ?_ ?_); (focus (first | (simp; done) | (simp; omega) | omega))) | ((with_reducible refine bl_later ?_ ?_); (focus (first | (simp; done) | (simp; omega) | omega))) | with_reducible refine bl_drew ?_ | with_reducible refine bl_drewN ?_ | ((with_reducible refine bl_step (by assumption) ?_ ?_); (focus (first | (simp; done) | (simp; omega) | omega)))))
  by_cases h2 : 30 < l.length
  · have e1 : decide ((l.length : Int) < 3) = false := by simp; omega
    have e2 : decide ((30 : Int) < (l.length : Int)) = true := by simp; omega
    go_enter Try.func94, Try.ntmps94
    go_wp2_with fail
    refine bodyPost_ret (v := .tuple #[.agg #[.int .i64 0, .int .i64 0, .slice none 0 0], .bool false]) (by simp [results, Try.results94, go_sem, *]) rfl ⟨rfl, ?_⟩
    (repeat (first | with_reducible exact Below.refl _ _ | ((with_reducible refine bl_alloc ?_ ?_); (focus (first | (simp; done) | (simp; omega) | omega))) | ((with_reducible refine bl_set ?_ ?_); (focus (first | (simp; done) | (simp; omega) | omega))) | ((with_reducible refine bl_later ?_ ?_); (focus (first | (simp; done) | (simp; omega) | omega))) | with_reducible refine bl_drew ?_ | with_reducible refine bl_drewN ?_ | ((with_reducible refine bl_step (by assumption) ?_ ?_); (focus (first | (simp; done) | (simp; omega) | omega)))))
  have hp : (0 : Int) < (l.length : Int) := by omega
  have h0l : 0 < l.length := by omega
  have e1 : decide ((l.length : Int) < 3) = false := by simp; omega
  have e2 : decide ((30 : Int) < (l.length : Int)) = false := by simp; omega
  by_cases h3 : l.length % 9 ≠ 3
  · have e3 : ((l.length : Int) % 9 != 3) = true := by simp only [bne_iff_ne, ne_eq]; omega
    have H3 := Lib.hid h3
    clear h3
    go_enter Try.func94, Try.ntmps94
    go_wp2_with fail
    refine bodyPost_ret (v := .tuple #[.agg #[.int .i64 0, .int .i64 0, .slice none 0 0], .bool false]) (by simp [results, Try.results94, go_sem, *]) rfl ⟨rfl, ?_⟩
    (repeat (first | with_reducible exact Below.refl _ _ | ((with_reducible refine bl_alloc ?_ ?_); (focus (first | (simp; done) | (simp; omega) | omega))) | ((with_reducible refine bl_set ?_ ?_); (focus (first | (simp; done) | (simp; omega) | omega))) | ((with_reducible refine bl_later ?_ ?_); (focus (first | (simp; done) | (simp; omega) | omega))) | with_reducible refine bl_drew ?_ | with_reducible refine bl_drewN ?_ | ((with_reducible refine bl_step (by assumption) ?_ ?_); (focus (first | (simp; done) | (simp; omega) | omega)))))
  have e3 : ((l.length : Int) % 9 != 3) = false := by simp only [bne_eq_false_iff_eq]; omega
  obtain ⟨b0, off, rfl, hbl, hr0, hc⟩ := hh.at (k := 0) h0l
  have k0 := hc 0 h0l
  have hd : l.headD 0 = l[0] := by
    cases l with
    | nil => simp at h0l
    | cons x r => rfl
  have e4 : (l[0] != 4) = true := by simp only [bne_iff_ne, ne_eq]; rw [← hd]; omega
  rw [Nat.add_zero] at k0
  clear hc hd hr0 h3 hbad
  have hbl1 : b0 < w.heap.size + 1 := by omega
  go_enter Try.func94, Try.ntmps94
  go_wp2_with fail
  refine bodyPost_ret (v := .tuple #[.agg #[.int .i64 0, .int .i64 0, .slice none 0 0], .bool false]) (by simp [results, Try.results94, go_sem, *]) rfl ⟨rfl, ?_⟩
  (repeat (first | with_reducible exact Below.refl _ _ | ((with_reducible refine bl_alloc ?_ ?_); (focus (first | (simp; done) | (simp; omega) | omega))) | ((with_reducible refine bl_set ?_ ?_); (focus (first | (simp; done) | (simp; omega) | omega))) | ((with_reducible refine bl_later ?_ ?_); (focus (first | (simp; done) | (simp; omega) | omega))) | with_reducible refine bl_drew ?_ | with_reducible refine bl_drewN ?_ | ((with_reducible refine bl_step (by assumption) ?_ ?_); (focus (first | (simp; done) | (simp; omega) | omega)))))
theorem c_spec_RowFeed_shape (ao : Option Addr) (cap : Nat) (l : List Int) (p0 p1 : Int) (r : List Int) (w : World) (hh : IntsR w ao l) (hcap : l.length ≤ cap) (Hl : Hid (l = 4 :: p0 :: p1 :: r)) (hl3 : 3 ≤ l.length) (hl30 : l.length ≤ 30) (hev : Hid (l.length % 9 = 3)) :
    Calls Try.prog 94 #[.slice ao l.length cap] w (RetRowFeed w l) := by
  have hm := hh.2.1
  obtain ⟨i0, hi, hz0, hz1, hz2⟩ := info_parts info_int64
  obtain ⟨j0, hj, hj0, hj1, hj2⟩ := info_parts info_Entry
  have hlen : Hid (l.length = 3 + r.length) := by show l.length = _; rw [Hl.out]; simp; omega
  have hlr : r.length ≤ 27 := by have := hlen.out; omega
  have hh2 : IntsR w ao (4 :: p0 :: p1 :: r) := Hl.out ▸ hh
  have Hdr : Hid (l.drop 3 = r) := by show l.drop 3 = r; rw [Hl.out]; rfl
  obtain ⟨b0, off, rfl, hbl, hr0, hc⟩ := hh2.at (k := 0) (by simp)
  have k0 := hc 0 (by simp)
  have k1 := hc 1 (by simp)
  have k2 := hc 2 (by simp)
  simp only [List.getElem_cons_zero, List.getElem_cons_succ, Nat.add_zero] at k0 k1 k2
  have hbl1 : b0 < w.heap.size + 1 := by omega
  have hp0 : (0 : Int) < (l.length : Int) := by omega
  have hp1 : (1 : Int) < (l.length : Int) := by omega
  have hp2 : (2 : Int) < (l.length : Int) := by omega
  have e1 : decide ((l.length : Int) < 3) = false := by simp; omega
  have e2 : decide ((30 : Int) < (l.length : Int)) = false := by simp; omega
  have e3 : ((l.length : Int) % 9 != 3) = false := by have h7 := hev.out; simp only [bne_eq_false_iff_eq]; omega
  have hBz := ((Bx.new w [.int .i64 0, .int .i64 0, .slice none 0 0] 44).alloc (.cells ([.int .i64 p0, .int .i64 p1, .slice none 0 0] : List Value).toArray 44)).drew
  have hFz := ((Fx.new w [.int .i64 0, .int .i64 0, .slice none 0 0] 44).alloc (.cells ([.int .i64 p0, .int .i64 p1, .slice none 0 0] : List Value).toArray 44)).drew
  have hBx := (Bx.new (w.alloc (.cells ([.int .i64 0, .int .i64 0, .slice none 0 0] : List Value).toArray 44)) [.int .i64 p0, .int .i64 p1, .slice none 0 0] 44).drew
  have hFx := (Fx.new (w.alloc (.cells ([.int .i64 0, .int .i64 0, .slice none 0 0] : List Value).toArray 44)) [.int .i64 p0, .int .i64 p1, .slice none 0 0] 44).drew
  rw [World.size_alloc] at hBx hFx
  have HBz := Lib.hid hBz
  have HFz := Lib.hid hFz
  have HBx := Lib.hid hBx
  have HFx := Lib.hid hFx
  clear hBz hFz hBx hFx hc hh2 hr0
  go_enter Try.func94, Try.ntmps94
  go_wp2_with fail
  refine restS_begin (fun W => Below w.heap.size w W) (by kernel_rfl) (by (repeat (first | with_reducible exact Below.refl _ _ | ((with_reducible refine bl_alloc ?_ ?_); (focus (first | (simp; done) | (simp; omega) | omega))) | ((with_reducible refine bl_set ?_ ?_); (focus (first | (simp; done) | (simp; omega) | omega))) | ((with_reducible refine bl_later ?_ ?_); (focus (first | (simp; done) | (simp; omega) | omega))) | with_reducible refine bl_drew ?_ | with_reducible refine bl_drewN ?_ | ((with_reducible refine bl_step (by assumption) ?_ ?_); (focus (first | (simp; done) | (simp; omega) | omega)))))) ?_
  refine restS_take (v := ?_) 0 rfl (by kernel_rfl) (by kernel_rfl) (by kernel_rfl) (fun _ _ _ h => h) (by rfl) ?_ ?_
  rotate_left
  · intro w9 h9; try dsimp only at h9
    go_split_ands
    go_simp; try with_reducible rfl
  try simp only [Act.put, List.setIfInBounds_toArray, List.set_cons_zero, List.set_cons_succ]
  refine restS_take (v := ?_) 1 rfl (by kernel_rfl) (by kernel_rfl) (by kernel_rfl) (fun _ _ _ h => h) (by rfl) ?_ ?_
  rotate_left
  · intro w9 h9; try dsimp only at h9
    go_split_ands
    go_simp; try with_reducible rfl
  try simp only [Act.put, List.setIfInBounds_toArray, List.set_cons_zero, List.set_cons_succ]
  refine restS_take (v := ?_) 2 rfl (by kernel_rfl) (by kernel_rfl) (by kernel_rfl) (fun _ _ _ h => h) (by rfl) ?_ ?_
  rotate_left
  · intro w9 h9; try dsimp only at h9
    obtain ⟨x9, rfl⟩ := later_of h9
    go_simp; try with_reducible rfl
  try simp only [Act.put, List.setIfInBounds_toArray, List.set_cons_zero, List.set_cons_succ]
  refine restS_take (v := ?_) 3 rfl (by kernel_rfl) (by kernel_rfl) (by kernel_rfl) (fun _ _ _ h => h) (by rfl) ?_ ?_
  rotate_left
  · intro w9 h9; try dsimp only at h9
    go_split_ands
    go_simp; try with_reducible rfl
  try simp only [Act.put, List.setIfInBounds_toArray, List.set_cons_zero, List.set_cons_succ]
  refine restS_take (v := ?_) 4 rfl (by kernel_rfl) (by kernel_rfl) (by kernel_rfl) (fun _ _ _ h => h) (by rfl) ?_ ?_
  rotate_left
  · intro w9 h9; try dsimp only at h9
    go_split_ands
    go_simp; try with_reducible rfl
  try simp only [Act.put, List.setIfInBounds_toArray, List.set_cons_zero, List.set_cons_succ]
  refine restS_take (v := ?_) 5 rfl (by kernel_rfl) (by kernel_rfl) (by kernel_rfl) (fun _ _ _ h => h) (by rfl) ?_ ?_
  rotate_left
  · intro w9 h9; try dsimp only at h9
    obtain ⟨x9, rfl⟩ := later_of h9
    go_simp; try with_reducible rfl
  try simp only [Act.put, List.setIfInBounds_toArray, List.set_cons_zero, List.set_cons_succ]
  refine restS_take (v := ?_) 6 rfl (by kernel_rfl) (by kernel_rfl) (by kernel_rfl) (fun _ _ _ h => h) (by rfl) ?_ ?_
  rotate_left
  · intro w9 h9; try dsimp only at h9
    go_split_ands
    go_simp; try with_reducible rfl
  try simp only [Act.put, List.setIfInBounds_toArray, List.set_cons_zero, List.set_cons_succ]
  refine restS_alone 7 rfl (by kernel_rfl) (by rfl) (fun hS K hK => ?_)
  go_wp2_with fail
  refine hK.out _ _ (by (repeat (first | with_reducible exact Below.refl _ _ | ((with_reducible refine bl_alloc ?_ ?_); (focus (first | (simp; done) | (simp; omega) | omega))) | ((with_reducible refine bl_set ?_ ?_); (focus (first | (simp; done) | (simp; omega) | omega))) | ((with_reducible refine bl_later ?_ ?_); (focus (first | (simp; done) | (simp; omega) | omega))) | with_reducible refine bl_drew ?_ | with_reducible refine bl_drewN ?_ | ((with_reducible refine bl_step (by assumption) ?_ ?_); (focus (first | (simp; done) | (simp; omega) | omega)))))) ?_
  try simp only [Act.put, List.setIfInBounds_toArray, List.set_cons_zero, List.set_cons_succ]
  clear hK K hS
  refine restS_alone 8 rfl (by kernel_rfl) (by rfl) (fun hS K hK => ?_)
  go_wp2_with fail
  refine hK.out _ _ (by (repeat (first | with_reducible exact Below.refl _ _ | ((with_reducible refine bl_alloc ?_ ?_); (focus (first | (simp; done) | (simp; omega) | omega))) | ((with_reducible refine bl_set ?_ ?_); (focus (first | (simp; done) | (simp; omega) | omega))) | ((with_reducible refine bl_later ?_ ?_); (focus (first | (simp; done) | (simp; omega) | omega))) | with_reducible refine bl_drew ?_ | with_reducible refine bl_drewN ?_ | ((with_reducible refine bl_step (by assumption) ?_ ?_); (focus (first | (simp; done) | (simp; omega) | omega)))))) ?_
  try simp only [Act.put, List.setIfInBounds_toArray, List.set_cons_zero, List.set_cons_succ]
  clear hK K hS
  refine restS_done (by kernel_rfl) (fun hS => ?_)
  go_wp2_with fail
  go_loopw [5] (fun v wr => ∃ (n : Nat) (q : List Int) (D : List (Int × Int × Int × Int × Int × Int × Int × Int × Int)) (ao' : Option Addr) (cap' : Nat), v = .int .i64 n ∧ Hid (n % 9 = 3) ∧ Hid (l.drop n = q) ∧ Hid (chunk9 r = D ++ chunk9 q) ∧ Hid (D.length * 9 + q.length ≤ 1000) ∧ n ≤ l.length ∧ Bx wr (w.heap.size + 1) [.int .i64 p0, .int .i64 p1, .slice ao' D.length cap'] ∧ Fx wr (w.heap.size + 1) ∧ Bx wr w.heap.size [.int .i64 0, .int .i64 0, .slice none 0 0] ∧ Fx wr w.heap.size ∧ OwnA entryE wr (w.heap.size + 1 + 1) 70 (.slice ao' D.length cap') D ∧ Below w.heap.size w wr)
    (fun v _ => l.length - (intOf v).toNat)
  case atStart => exact ⟨3, r, [], none, 0, rfl, rfl, Hdr.out, rfl, (by show _ ≤ 1000; simp; omega), hl3, HBx.out, HFx.out, HBz.out, HFz.out, ownA_nil _ _ _ _, hS⟩
  case round =>
    obtain ⟨n, q, D, ao', cap', rfl, Hpar, Hq, Hd, HdL, hnl, hBx, hFx, hBz, hFz, hOw, hbel⟩ := hrel
    have hql : q.length = l.length - n := by rw [← Hq.out, List.length_drop]
    have Hql := Lib.hid hql
    clear hql
    by_cases hlt : n < l.length
    · have hn9 : n + 9 ≤ l.length := by have h7 := Hpar.out; have h8 := hev.out; omega
      obtain ⟨x0, x1, x2, x3, x4, x5, x6, x7, x8, q, rfl⟩ := cut9 (q := q) (by have h7 := Hql.out; omega)
      obtain ⟨ao5, hsh, hR5⟩ := slice_cut (P := Try.prog) (t := 22) Try.underlying22 hi hz1 cap n (n + 9) hh (by omega) hn9 hcap
      have hsh2 : ∀ W, (Instr.slice 22 (.slice (some ⟨b0, off, none⟩) l.length cap) (some (.int .i64 (n : Int))) (some (.int .i64 ((n : Int) + 9))) none).run Try.prog W = .ok (.slice ao5 9 (cap - n)) W := fun W => by
        have h7 := hsh W
        rw [show n + 9 - n = 9 by omega] at h7
        exact h7
      have hR6 : IntsR w ao5 [x0, x1, x2, x3, x4, x5, x6, x7, x8] := by
        rw [show n + 9 - n = 9 by omega, Hq.out] at hR5
        exact hR5
      have HR5 := Lib.hid hR6
      have hq : IntsR w ao5 [x0, x1, x2, x3, x4, x5, x6, x7, x8] := hR6
      have hc9 : 9 ≤ cap - n := by omega
      have hDl : D.length ≤ 1000 := by have h7 := HdL.out; omega
      have hlt2 : (n : Int) < (l.length : Int) := by omega
      have hnn : (n : Int) + 9 ≤ 1000 := by omega
      clear hR5 hR6 hsh
      cases hE : entryOk x0 x1 x2 x3 x4 x5 x6 x7 x8
      · have hj : isFeed l = false := by
          rw [Hl.out]
          have hm9 : ((x0, x1, x2, x3, x4, x5, x6, x7, x8) : Int × Int × Int × Int × Int × Int × Int × Int × Int) ∈ chunk9 r := by rw [Hd.out]; simp [chunk9]
          simp [isFeed, feedOk_mem hm9 hE]
        have hOk : entryE.ok (0, 0, 0, 0, 0, 0, 0, 0, 0) := ⟨by simp [inI64], by simp [inI64], by simp [inI64], by simp [inI64], by simp [inI64], by simp [inI64], by simp [inI64], by simp [inI64], by simp [inI64]⟩
        go_wp2_with ((go_at_call 147; refine (c_spec_RowEntry_f _ _ x0 x1 x2 x3 x4 x5 x6 x7 x8 _ (HR5.out.below (by (repeat (first | with_reducible exact Below.refl _ _ | ((with_reducible refine bl_alloc ?_ ?_); (focus (first | (simp; done) | (simp; omega) | omega))) | ((with_reducible refine bl_set ?_ ?_); (focus (first | (simp; done) | (simp; omega) | omega))) | ((with_reducible refine bl_later ?_ ?_); (focus (first | (simp; done) | (simp; omega) | omega))) | with_reducible refine bl_drew ?_ | with_reducible refine bl_drewN ?_ | ((with_reducible refine bl_step (by assumption) ?_ ?_); (focus (first | (simp; done) | (simp; omega) | omega))))))) (by omega) hE).mono ?_; rintro e w4 ⟨rfl, hb4⟩; have hBx4 := hBx.below hb4; have hFx4 := hFx.below hb4; have hBz4 := hBz.below hb4; have hFz4 := hFz.below hb4; have hOw4 := hOw.below hb4; have hbel4 := bl_step hb4 hbel.size hbel; have HL := Lib.hid (lit_entry w4 (.cells ([.int .i64 0, .int .i64 0, .int .i64 0, .int .i64 0, .int .i64 0, .int .i64 0, .int .i64 0, .int .i64 0, .int .i64 0] : List Value).toArray 70) 0 0 0 0 0 0 0 0 0 hOk); have q0 := hBx4.2; have hBl := hBx4.1; have q8 := hBz4.2; have q9 := hFz4.2; have hBl2 := hBz4.1; clear hb4))
        refine bodyPost_ret (v := .tuple #[.agg #[.int .i64 0, .int .i64 0, .slice none 0 0], .bool false]) (by simp [results, Try.results94, go_sem, *]) rfl (retRowFeed_no hj ?_)
        (repeat (first | with_reducible exact Below.refl _ _ | ((with_reducible refine bl_alloc ?_ ?_); (focus (first | (simp; done) | (simp; omega) | omega))) | ((with_reducible refine bl_set ?_ ?_); (focus (first | (simp; done) | (simp; omega) | omega))) | ((with_reducible refine bl_later ?_ ?_); (focus (first | (simp; done) | (simp; omega) | omega))) | with_reducible refine bl_drew ?_ | with_reducible refine bl_drewN ?_ | ((with_reducible refine bl_step (by assumption) ?_ ?_); (focus (first | (simp; done) | (simp; omega) | omega)))))
      · skip
        have hOk : entryE.ok (x0, x1, x2, x3, x4, x5, x6, x7, x8) := ⟨hq.1 _ (by simp), hq.1 _ (by simp), hq.1 _ (by simp), hq.1 _ (by simp), hq.1 _ (by simp), hq.1 _ (by simp), hq.1 _ (by simp), hq.1 _ (by simp), hq.1 _ (by simp)⟩
        go_wp2_with (first | (at_builtin; refine wpList_append_rows (E := entryE) rfl _ _ _ rfl (w.heap.size + 1 + 1) 70 j0 (.agg #[.int .i64 0, .int .i64 0, .int .i64 0, .int .i64 0, .int .i64 0, .int .i64 0, .int .i64 0, .int .i64 0, .int .i64 0]) 72 Try.underlying42 hj hj0 hj1 hj2 rfl (by omega) entry_one _ _ _ _ D [(x0, x1, x2, x3, x4, x5, x6, x7, x8)] rfl ((hOw4.below ((Below.refl _ _).alloc (Nat.le_refl _) (.cells ([.int .i64 x0, .int .i64 x1, .int .i64 x2, .int .i64 x3, .int .i64 x4, .int .i64 x5, .int .i64 x6, .int .i64 x7, .int .i64 x8] : List Value).toArray 70))).below ((Below.refl _ _).alloc (Nat.le_refl _) (.cells ([.int .i64 x0, .int .i64 x1, .int .i64 x2, .int .i64 x3, .int .i64 x4, .int .i64 x5, .int .i64 x6, .int .i64 x7, .int .i64 x8] : List Value).toArray 70))) rfl (HL.out).read (by simp only [List.length_cons, List.length_nil]; omega) (by have h7 := hBx4.1; simp only [World.size_alloc]; omega) (fun a5 c5 w5 ho5 hg5 => ?_); have hlt2 := hOw4.2.2.lt; have hBx5 := ((hBx4.alloc (.cells ([.int .i64 x0, .int .i64 x1, .int .i64 x2, .int .i64 x3, .int .i64 x4, .int .i64 x5, .int .i64 x6, .int .i64 x7, .int .i64 x8] : List Value).toArray 70)).alloc (.cells ([.int .i64 x0, .int .i64 x1, .int .i64 x2, .int .i64 x3, .int .i64 x4, .int .i64 x5, .int .i64 x6, .int .i64 x7, .int .i64 x8] : List Value).toArray 70)).grown hg5 (fun e => by have h7 := (hlt2 _ e).1; omega); have hFx5 := ((hFx4.alloc (.cells ([.int .i64 x0, .int .i64 x1, .int .i64 x2, .int .i64 x3, .int .i64 x4, .int .i64 x5, .int .i64 x6, .int .i64 x7, .int .i64 x8] : List Value).toArray 70)).alloc (.cells ([.int .i64 x0, .int .i64 x1, .int .i64 x2, .int .i64 x3, .int .i64 x4, .int .i64 x5, .int .i64 x6, .int .i64 x7, .int .i64 x8] : List Value).toArray 70)).grown hg5 (fun e => by have h7 := (hlt2 _ e).1; omega); have hBz5 := ((hBz4.alloc (.cells ([.int .i64 x0, .int .i64 x1, .int .i64 x2, .int .i64 x3, .int .i64 x4, .int .i64 x5, .int .i64 x6, .int .i64 x7, .int .i64 x8] : List Value).toArray 70)).alloc (.cells ([.int .i64 x0, .int .i64 x1, .int .i64 x2, .int .i64 x3, .int .i64 x4, .int .i64 x5, .int .i64 x6, .int .i64 x7, .int .i64 x8] : List Value).toArray 70)).grown hg5 (fun e => by have h7 := (hlt2 _ e).1; omega); have hFz5 := ((hFz4.alloc (.cells ([.int .i64 x0, .int .i64 x1, .int .i64 x2, .int .i64 x3, .int .i64 x4, .int .i64 x5, .int .i64 x6, .int .i64 x7, .int .i64 x8] : List Value).toArray 70)).alloc (.cells ([.int .i64 x0, .int .i64 x1, .int .i64 x2, .int .i64 x3, .int .i64 x4, .int .i64 x5, .int .i64 x6, .int .i64 x7, .int .i64 x8] : List Value).toArray 70)).grown hg5 (fun e => by have h7 := (hlt2 _ e).1; omega); have hB5 := bl_grown hg5 (by have h7 := hbel4.size; simp only [World.size_alloc]; omega) (fun k hk => Nat.le_trans (by omega) (hlt2 k hk).1) ((hbel4.alloc hbel4.size (.cells ([.int .i64 x0, .int .i64 x1, .int .i64 x2, .int .i64 x3, .int .i64 x4, .int .i64 x5, .int .i64 x6, .int .i64 x7, .int .i64 x8] : List Value).toArray 70)).alloc (by have h7 := hbel4.size; simp only [World.size_alloc]; omega) (.cells ([.int .i64 x0, .int .i64 x1, .int .i64 x2, .int .i64 x3, .int .i64 x4, .int .i64 x5, .int .i64 x6, .int .i64 x7, .int .i64 x8] : List Value).toArray 70)); have q6 := hBx5.2; have q7 := hFx5.2; clear q0) | (go_at_call 147; refine (c_spec_RowEntry_t _ _ x0 x1 x2 x3 x4 x5 x6 x7 x8 _ (HR5.out.below (by (repeat (first | with_reducible exact Below.refl _ _ | ((with_reducible refine bl_alloc ?_ ?_); (focus (first | (simp; done) | (simp; omega) | omega))) | ((with_reducible refine bl_set ?_ ?_); (focus (first | (simp; done) | (simp; omega) | omega))) | ((with_reducible refine bl_later ?_ ?_); (focus (first | (simp; done) | (simp; omega) | omega))) | with_reducible refine bl_drew ?_ | with_reducible refine bl_drewN ?_ | ((with_reducible refine bl_step (by assumption) ?_ ?_); (focus (first | (simp; done) | (simp; omega) | omega))))))) (by omega) hE).mono ?_; rintro e w4 ⟨rfl, hb4⟩; have hBx4 := hBx.below hb4; have hFx4 := hFx.below hb4; have hBz4 := hBz.below hb4; have hFz4 := hFz.below hb4; have hOw4 := hOw.below hb4; have hbel4 := bl_step hb4 hbel.size hbel; have HL := Lib.hid (lit_entry w4 (.cells ([.int .i64 x0, .int .i64 x1, .int .i64 x2, .int .i64 x3, .int .i64 x4, .int .i64 x5, .int .i64 x6, .int .i64 x7, .int .i64 x8] : List Value).toArray 70) x0 x1 x2 x3 x4 x5 x6 x7 x8 hOk); have q0 := hBx4.2; have hBl := hBx4.1; clear hb4))
        have hDx := hBx5.set 2 (.slice a5 (D.length + 1) c5) (by simp)
        simp only [List.set_cons_succ, List.set_cons_zero] at hDx
        go_roundw
        case rel => exact ⟨n + 9, q, D ++ [(x0, x1, x2, x3, x4, x5, x6, x7, x8)], a5, c5, by go_num, (by have h7 := Hpar.out; show _ % 9 = 3; omega), (by show l.drop (n + 9) = q; rw [← List.drop_drop, Hq.out]; rfl), (by show chunk9 r = _; rw [Hd.out]; simp [chunk9]), (by show _ ≤ 1000; have h7 := HdL.out; simp only [List.length_append, List.length_cons, List.length_nil] at h7 ⊢; omega), hn9, (by rw [List.length_append]; exact hDx), hFx5.set _ _, hBz5.setOther _ _ (by simp), hFz5.set _ _, ho5.set (by simp), hB5.setCell (by simp) _⟩
        case measure => simp [intOf]; omega
    · have h0 : q = [] := List.eq_nil_of_length_eq_zero (by have h7 := Hql.out; omega)
      subst h0
      have e : D = chunk9 r := by rw [Hd.out]; simp [chunk9]
      subst e
      have hd : decide (n < l.length) = false := by simp; omega
      have hr7 : r.length % 9 = 0 := by have h7 := hev.out; have h8 := hlen.out; omega
      cases hE : feedOk p0 p1 (chunk9 r)
      · have hj : isFeed l = false := by rw [Hl.out]; simp [isFeed, hE]
        have q0 := hBx.2
        go_wp2_with fail
        clear q0
        refine (c_spec_FeedOk _ _ _ _ _ _ hOw.read).mono ?_
        rintro e w1 ⟨rfl, hb1⟩
        replace hBx := hBx.below hb1
        replace hBz := hBz.below hb1
        replace hFz := hFz.below hb1
        replace hOw := hOw.below hb1
        replace hbel := bl_step hb1 hbel.size hbel
        clear hb1
        have q0 := hBx.2
        have q1 := hBz.2
        have q2 := hFz.2
        go_wp2_with fail
        refine bodyPost_ret (v := .tuple #[.agg #[.int .i64 0, .int .i64 0, .slice none 0 0], .bool false]) (by simp [results, Try.results94, go_sem, *]) rfl (retRowFeed_no hj ?_)
        (repeat (first | with_reducible exact Below.refl _ _ | ((with_reducible refine bl_alloc ?_ ?_); (focus (first | (simp; done) | (simp; omega) | omega))) | ((with_reducible refine bl_set ?_ ?_); (focus (first | (simp; done) | (simp; omega) | omega))) | ((with_reducible refine bl_later ?_ ?_); (focus (first | (simp; done) | (simp; omega) | omega))) | with_reducible refine bl_drew ?_ | with_reducible refine bl_drewN ?_ | ((with_reducible refine bl_step (by assumption) ?_ ?_); (focus (first | (simp; done) | (simp; omega) | omega)))))
      · have hj : isFeed (4 :: p0 :: p1 :: r) = true := by simp [isFeed, hE, hlr, hr7]
        have q0 := hBx.2
        go_wp2_with fail
        clear q0
        refine (c_spec_FeedOk _ _ _ _ _ _ hOw.read).mono ?_
        rintro e w1 ⟨rfl, hb1⟩
        replace hBx := hBx.below hb1
        replace hBz := hBz.below hb1
        replace hFz := hFz.below hb1
        replace hOw := hOw.below hb1
        replace hbel := bl_step hb1 hbel.size hbel
        clear hb1
        have q0 := hBx.2
        have q1 := hBz.2
        have q2 := hFz.2
        go_wp2_with fail
        refine bodyPost_ret (v := .tuple #[.agg #[.int .i64 p0, .int .i64 p1, .slice ao' (chunk9 r).length cap'], .bool true]) (by simp [results, Try.results94, go_sem, *]) rfl ?_
        rw [Hl.out]
        refine retRowFeed_yes hj ?_ (by (repeat (first | with_reducible exact Below.refl _ _ | ((with_reducible refine bl_alloc ?_ ?_); (focus (first | (simp; done) | (simp; omega) | omega))) | ((with_reducible refine bl_set ?_ ?_); (focus (first | (simp; done) | (simp; omega) | omega))) | ((with_reducible refine bl_later ?_ ?_); (focus (first | (simp; done) | (simp; omega) | omega))) | with_reducible refine bl_drew ?_ | with_reducible refine bl_drewN ?_ | ((with_reducible refine bl_step (by assumption) ?_ ?_); (focus (first | (simp; done) | (simp; omega) | omega))))))
        refine OwnA.weak (lo := w.heap.size + 1 + 1) (by omega) ?_
        repeat (first | ((with_reducible refine OwnA.set ?_ ?_); (focus (first | (simp; done) | (simp; omega) | omega))))
        exact hOw

end Go.Proofs.Ytpfkfppooeikeaa
