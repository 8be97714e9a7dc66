/- Texts of the proof, merged: part 2. -/
import Derived.Test.YtmjafclpeknpcaaKeA
import Derived.WalkKit
import Derived.WalkSpells
import Derived.Deep.QuietTactic
import Derived.BigQuiet
import Derived.Deep.Light
import Derived.Lib.Hide
import Derived.IntWalk
import Derived.Test.YtmjafclpeknpcaaOpenN
import Derived.Test.YtmjafclpeknpcaaNTo
import Derived.Test.YtmjafclpeknpcaaRows
import Derived.JoinedOf
import Derived.ProofKit
/- Walks of functions of the program, printed by a program of the prover. -/
namespace Go.Proofs.Ytmjafclpeknpcaa
open Go.ChangeShapes Go.WideShapes Go.ChangeAt Go.RowKit Go.Deep
set_option maxHeartbeats 6400000
set_option maxRecDepth 100000
theorem keptEntry_small {d e : DiskT} {i t c s k a b x y : Int} (h1 : Small d) (h2 : Small e) : Small (keptEntryF d e i t c s k a b x y).1.1 ∧ Small (keptEntryF d e i t c s k a b x y).1.2 := by
  have hz : Small ([], []) := small_of (by simp) (by simp) (by simp) (by simp)
  have key : ∀ o, Small (keptRowF d e (slotOf i) o).1.1 ∧ Small (keptRowF d e (slotOf i) o).1.2 := fun o => by
    cases hK : keptOk d e
    · rw [keptRowF_z o hK]; exact ⟨hz, hz⟩
    · cases o with
      | none => rw [keptRowF_none hK]; exact ⟨h1, h2⟩
      | some r =>
        rw [keptRowF_some hK]
        cases hC : bothC d e (slotOf i) r
        · rw [bothWroteF_n hC]; exact ⟨h1, h2⟩
        · rw [bothWroteF_y hC]
          obtain ⟨o1, o2⟩ := twoOk_1 (keptOk_t hK)
          unfold bothC canWrite at hC
          simp only [Bool.and_eq_true, decide_eq_true_eq] at hC
          obtain ⟨s1, s2, s3, s4⟩ := diskOk_small o1
          obtain ⟨r1, r2, r3, r4⟩ := diskOk_small o2
          have hl := withSum_len r
          refine ⟨small_of s1 s2 (by simp; omega) (fun z hz => ?_), small_of r1 r2 (by simp; omega) (fun z hz => ?_)⟩
          · rcases List.mem_append.1 hz with hz | hz
            · exact s4 z hz
            · rw [List.mem_singleton.1 hz]; exact hl
          · rcases List.mem_append.1 hz with hz | hz
            · exact r4 z hz
            · rw [List.mem_singleton.1 hz]; exact hl
  exact key _
theorem c_law_KeptEntry (a1 a2 a3 a4 : Option Addr) (ak1 ak2 ak3 ak4 : Nat) (d e : DiskT) (i t c s k a b x y : Int) (w : World) (h : DiskR w a1 a2 d) (h2 : DiskR w a3 a4 e) (yi : inI64 i) (yt : inI64 t) (yc : inI64 c) (ys : inI64 s) (yk : inI64 k) (ya : inI64 a) (yb : inI64 b) (yx : inI64 x) (yy : inI64 y) :
    Calls Try.prog 3 #[.agg #[.slice a1 d.1.length ak1, .slice a2 d.2.length ak2, .slice a3 e.1.length ak3, .slice a4 e.2.length ak4], .agg #[.int .i64 i, .int .i64 t, .int .i64 c, .int .i64 s, .int .i64 k, .int .i64 a, .int .i64 b, .int .i64 x, .int .i64 y]] w fun en w' => en = .returned (.bool true) ∧ Below w.heap.size w w' := by
  have HD : Hid (∀ V, Below w.heap.size w V → DiskR V a1 a2 d) := fun V hb => h.below hb
  have HE : Hid (∀ V, Below w.heap.size w V → DiskR V a3 a4 e) := fun V hb => h2.below hb
  clear h h2
  by_cases hbig : (1048576 : Int) - (szD d + szD e : Nat) < 0
  · have hszn := hbig
    clear hbig
    go_enter Try.func3, Try.ntmps3
    have HB : Hid (Below w.heap.size w w) := Lib.hid (Below.refl _ _)
    have Qt2 := Bx.new w [.slice a1 d.1.length ak1, .slice a2 d.2.length ak2, .slice a3 e.1.length ak3, .slice a4 e.2.length ak4] 27
    replace HB := Lib.hid (HB.out.alloc (by (first | (simp; done) | (simp; omega) | omega)) (.cells ([.slice a1 d.1.length ak1, .slice a2 d.2.length ak2, .slice a3 e.1.length ak3, .slice a4 e.2.length ak4] : List Value).toArray 27))
    replace Qt2 := Qt2.alloc (.cells ([.int .i64 i, .int .i64 t, .int .i64 c, .int .i64 s, .int .i64 k, .int .i64 a, .int .i64 b, .int .i64 x, .int .i64 y] : List Value).toArray 31)
    have Qt3 := Bx.new (w.alloc (.cells ([.slice a1 d.1.length ak1, .slice a2 d.2.length ak2, .slice a3 e.1.length ak3, .slice a4 e.2.length ak4] : List Value).toArray 27)) [.int .i64 i, .int .i64 t, .int .i64 c, .int .i64 s, .int .i64 k, .int .i64 a, .int .i64 b, .int .i64 x, .int .i64 y] 31
    simp only [World.size_alloc] at Qt3
    replace HB := Lib.hid (HB.out.alloc (by (first | (simp; done) | (simp; omega) | omega)) (.cells ([.int .i64 i, .int .i64 t, .int .i64 c, .int .i64 s, .int .i64 k, .int .i64 a, .int .i64 b, .int .i64 x, .int .i64 y] : List Value).toArray 31))
    go_wp2_with fail
    refine (c_szTwo a1 a2 a3 a4 ak1 ak2 ak3 ak4 d e 1048576 _ (HD.out _ HB.out) (HE.out _ HB.out) (by omega) (by omega)).mono ?_
    rw [szB_neg hszn]
    rintro e9 v1 ⟨rfl, hb⟩
    have hz0 := hb.size
    simp only [World.size_alloc] at hz0
    replace Qt2 := Qt2.below hb
    replace Qt3 := Qt3.below hb
    replace HB := Lib.hid (bl_step hb HB.out.size HB.out)
    have qt2 := Qt2.2
    have pt2 := Qt2.1
    have lt2 := Nat.le_of_lt Qt2.1
    have qt3 := Qt3.2
    have pt3 := Qt3.1
    have lt3 := Nat.le_of_lt Qt3.1
    clear hb
    go_wp2_with fail
    go_ret
    exact ⟨rfl, HB.out⟩
  · have hszd : szD d ≤ 1048576 := by omega
    have hsze : szD e ≤ 1048576 := by omega
    have HSd := Lib.hid (small_sz hszd)
    have HSe := Lib.hid (small_sz hsze)
    obtain ⟨⟨⟨X, Y⟩, f⟩, HR⟩ : ∃ R, Hid (keptEntryF d e i t c s k a b x y = R) := ⟨_, Lib.hid rfl⟩
    have kS := fun (p1 p2 p3 p4 : Option Addr) (k1 k2 k3 k4 : Nat) (V : World) h h2 => c_spec_KeptEntry p1 p2 p3 p4 k1 k2 k3 k4 d e i t c s k a b x y V h h2 yi yt yc ys yk ya yb yx yy
    have kI := fun (p1 p2 p3 p4 : Option Addr) (k1 k2 k3 k4 : Nat) (V : World) h h2 => c_impl_KeptEntry p1 p2 p3 p4 k1 k2 k3 k4 d e i t c s k a b x y V h h2 yi yt yc ys yk ya yb yx yy
    rw [HR.out] at kS kI
    have KS := Lib.hid kS
    have KI := Lib.hid kI
    clear kS kI
    have hsm := keptEntry_small (i := i) (t := t) (c := c) (s := s) (k := k) (a := a) (b := b) (x := x) (y := y) HSd.out HSe.out
    rw [HR.out] at hsm
    have HSX : Hid (Small X) := hsm.1
    have HSY : Hid (Small Y) := hsm.2
    clear hsm
    obtain ⟨n_de, Hn_de⟩ : ∃ n : Nat, Hid (mkSum d + mkSum e = n) := ⟨_, Lib.hid rfl⟩
    obtain ⟨n_XY, Hn_XY⟩ : ∃ n : Nat, Hid (mkSum X + mkSum Y = n) := ⟨_, Lib.hid rfl⟩
    have hN_de : n_de ≤ 4194304 := by have h1 := HSd.out.2; have h2 := HSe.out.2; have h3 := Hn_de.out; omega
    have hN_XY : n_XY ≤ 4194304 := by have h1 := HSX.out.2; have h2 := HSY.out.2; have h3 := Hn_XY.out; omega
    have hd_de : decide (1 + (n_de : Int) < 0) = false := by simp; omega
    have hd_XY : decide (1 + (n_XY : Int) < 0) = false := by simp; omega
    obtain ⟨left1, HL⟩ : ∃ z : Int, Hid ((1048576 : Int) - (szD d + szD e : Nat) = z) := ⟨_, Lib.hid rfl⟩
    have Hsz1 : Hid (szB 1048576 (szD d + szD e) = left1) := by rw [Hid, szB_pos hbig, HL.out]
    have hlf : decide (left1 < 0) = false := by have := HL.out; simp; omega
    clear hbig
    go_enter Try.func3, Try.ntmps3
    have HB : Hid (Below w.heap.size w w) := Lib.hid (Below.refl _ _)
    have Qt2 := Bx.new w [.slice a1 d.1.length ak1, .slice a2 d.2.length ak2, .slice a3 e.1.length ak3, .slice a4 e.2.length ak4] 27
    replace HB := Lib.hid (HB.out.alloc (by (first | (simp; done) | (simp; omega) | omega)) (.cells ([.slice a1 d.1.length ak1, .slice a2 d.2.length ak2, .slice a3 e.1.length ak3, .slice a4 e.2.length ak4] : List Value).toArray 27))
    replace Qt2 := Qt2.alloc (.cells ([.int .i64 i, .int .i64 t, .int .i64 c, .int .i64 s, .int .i64 k, .int .i64 a, .int .i64 b, .int .i64 x, .int .i64 y] : List Value).toArray 31)
    have Qt3 := Bx.new (w.alloc (.cells ([.slice a1 d.1.length ak1, .slice a2 d.2.length ak2, .slice a3 e.1.length ak3, .slice a4 e.2.length ak4] : List Value).toArray 27)) [.int .i64 i, .int .i64 t, .int .i64 c, .int .i64 s, .int .i64 k, .int .i64 a, .int .i64 b, .int .i64 x, .int .i64 y] 31
    simp only [World.size_alloc] at Qt3
    replace HB := Lib.hid (HB.out.alloc (by (first | (simp; done) | (simp; omega) | omega)) (.cells ([.int .i64 i, .int .i64 t, .int .i64 c, .int .i64 s, .int .i64 k, .int .i64 a, .int .i64 b, .int .i64 x, .int .i64 y] : List Value).toArray 31))
    go_wp2_with fail
    refine (c_szTwo a1 a2 a3 a4 ak1 ak2 ak3 ak4 d e 1048576 _ (HD.out _ HB.out) (HE.out _ HB.out) (by omega) (by omega)).mono ?_
    rw [Hsz1.out]
    rintro e9 v1 ⟨rfl, hb⟩
    have hz0 := hb.size
    simp only [World.size_alloc] at hz0
    replace Qt2 := Qt2.below hb
    replace Qt3 := Qt3.below hb
    replace HB := Lib.hid (bl_step hb HB.out.size HB.out)
    have qt2 := Qt2.2
    have pt2 := Qt2.1
    have lt2 := Nat.le_of_lt Qt2.1
    have qt3 := Qt3.2
    have pt3 := Qt3.1
    have lt3 := Nat.le_of_lt Qt3.1
    clear hb
    go_upto_region 5 with fail
    go_cut [6, 7] (fun s6 s7 wx => ∃ (B6 : Nat) (p2a1 : Option Addr) (p2ak1 : Nat) (p2a2 : Option Addr) (p2ak2 : Nat) (p2a3 : Option Addr) (p2ak3 : Nat) (p2a4 : Option Addr) (p2ak4 : Nat) (loo2a hio2a : Nat), s6 = .pointer (some ⟨B6, 0, none⟩) ∧ s7 = .bool f ∧ Bx wx B6 [.slice p2a1 X.1.length p2ak1, .slice p2a2 X.2.length p2ak2, .slice p2a3 Y.1.length p2ak3, .slice p2a4 Y.2.length p2ak4] ∧ Bx wx (w.heap.size) [.slice a1 d.1.length ak1, .slice a2 d.2.length ak2, .slice a3 e.1.length ak3, .slice a4 e.2.length ak4] ∧ Bx wx (w.heap.size + 1) [.int .i64 i, .int .i64 t, .int .i64 c, .int .i64 s, .int .i64 k, .int .i64 a, .int .i64 b, .int .i64 x, .int .i64 y] ∧ Hid (Sp twoO wx (loo2a) (hio2a) (X, Y) [.slice p2a1 X.1.length p2ak1, .slice p2a2 X.2.length p2ak2, .slice p2a3 Y.1.length p2ak3, .slice p2a4 Y.2.length p2ak4]) ∧ v1.heap.size ≤ B6 ∧ v1.heap.size ≤ loo2a ∧ loo2a ≤ hio2a ∧ hio2a ≤ wx.heap.size ∧ (B6 < loo2a ∨ hio2a ≤ B6) ∧ v1.heap.size ≤ wx.heap.size ∧ Hid (Below w.heap.size w wx))
    case first =>
      refine restK_begin [9] (by kernel_rfl) ?_
      refine restK_take (v := ?_) 0 rfl (by kernel_rfl) (by kernel_rfl) (by kernel_rfl) (by kernel_rfl) (by kernel_rfl) (by kernel_rfl) (fun _ _ _ h => h) (by rfl) ?_ ?_
      rotate_left
      · intro w9 h9; try dsimp only at h9
        obtain ⟨x9, rfl⟩ := later_of h9
        go_simp; try with_reducible rfl
      try simp only [Act.put, List.setIfInBounds_toArray, List.set_cons_zero, List.set_cons_succ]
      refine restK_take (v := ?_) 2 rfl (by kernel_rfl) (by kernel_rfl) (by kernel_rfl) (by kernel_rfl) (by kernel_rfl) (by kernel_rfl) (fun _ _ _ h => h) (by rfl) ?_ ?_
      rotate_left
      · intro w9 h9; try dsimp only at h9
        obtain ⟨x9, rfl⟩ := later_of h9
        go_simp; try with_reducible rfl
      try simp only [Act.put, List.setIfInBounds_toArray, List.set_cons_zero, List.set_cons_succ]
      refine restK_two 1 8 rfl rfl (by kernel_rfl) (by rfl) (by rfl) (fun hS K hK => ?_) (fun hS K hK => ?_)
      · skip
        replace Qt2 := Qt2.drew
        replace Qt3 := Qt3.drew
        replace HB := Lib.hid HB.out.drew
        go_wp2_with fail
        refine (c_toTwo a1 a2 a3 a4 ak1 ak2 ak3 ak4 d e _ (HD.out _ HB.out) (HE.out _ HB.out) HSd.out.1 HSe.out.1).mono ?_
        rintro e9 v2 ⟨p11, p1k1, p12, p1k2, p13, p1k3, p14, p1k4, rfl, hs, hb⟩
        have hz1 := hb.size
        simp only [World.size_drew] at hz1
        replace Qt2 := Qt2.below hb
        replace Qt3 := Qt3.below hb
        replace HB := Lib.hid (bl_step hb HB.out.size HB.out)
        replace qt2 := Qt2.2
        replace pt2 := Qt2.1
        replace lt2 := Nat.le_of_lt Qt2.1
        replace qt3 := Qt3.2
        replace pt3 := Qt3.1
        replace lt3 := Nat.le_of_lt Qt3.1
        simp only [World.size_drew] at hs
        have Ho1 : Hid (Sp twoO v2 (v1.heap.size) (v2.heap.size) (d, e) [.slice p11 d.1.length p1k1, .slice p12 d.2.length p1k2, .slice p13 e.1.length p1k3, .slice p14 e.2.length p1k4]) := hs
        clear hs
        have hS2 := bl_step hb hS.size hS
        refine hK.out _ _ (hS2) ?_
        try simp only [Act.put, List.setIfInBounds_toArray, List.set_cons_zero, List.set_cons_succ]
        clear hK K hS
        clear hS2 hb
        refine restK_two 3 8 rfl rfl (by kernel_rfl) (by rfl) (by rfl) (fun hS K hK => ?_) (fun hS K hK => ?_)
        · skip
          go_wp2_with fail
          refine (c_laws_toEntry i t c s k a b x y _).mono ?_
          rintro e9 v3 ⟨rfl, hb⟩
          have hz2 := hb.size
          replace Qt2 := Qt2.below hb
          replace Qt3 := Qt3.below hb
          replace Ho1 := Lib.hid (Ho1.out.kp (kp_of_below hb (by (first | (simp; done) | (simp; omega) | omega))))
          replace HB := Lib.hid (bl_step hb HB.out.size HB.out)
          replace qt2 := Qt2.2
          replace pt2 := Qt2.1
          replace lt2 := Nat.le_of_lt Qt2.1
          replace qt3 := Qt3.2
          replace pt3 := Qt3.1
          replace lt3 := Nat.le_of_lt Qt3.1
          have hS2 := bl_step hb hS.size hS
          refine hK.out _ _ (hS2) ?_
          try simp only [Act.put, List.setIfInBounds_toArray, List.set_cons_zero, List.set_cons_succ]
          clear hK K hS
          clear hS2 hb
          refine restK_two 4 8 rfl rfl (by kernel_rfl) (by rfl) (by rfl) (fun hS K hK => ?_) (fun hS K hK => ?_)
          · skip
            go_wp2_with fail
            refine (KS.out p11 p12 p13 p14 p1k1 p1k2 p1k3 p1k4 _ (Ho1.out).two.1 (Ho1.out).two.2).mono ?_
            rintro e9 v4 ⟨p2a1, p2ak1, p2a2, p2ak2, p2a3, p2ak3, p2a4, p2ak4, rfl, hs, hb⟩
            have hz3 := hb.size
            replace Qt2 := Qt2.below hb
            replace Qt3 := Qt3.below hb
            replace Ho1 := Lib.hid (Ho1.out.kp (kp_of_below hb (by (first | (simp; done) | (simp; omega) | omega))))
            replace HB := Lib.hid (bl_step hb HB.out.size HB.out)
            replace qt2 := Qt2.2
            replace pt2 := Qt2.1
            replace lt2 := Nat.le_of_lt Qt2.1
            replace qt3 := Qt3.2
            replace pt3 := Qt3.1
            replace lt3 := Nat.le_of_lt Qt3.1
            dsimp only at hs
            have Ho2a : Hid (Sp twoO v4 (v3.heap.size) (v4.heap.size) (X, Y) [.slice p2a1 X.1.length p2ak1, .slice p2a2 X.2.length p2ak2, .slice p2a3 Y.1.length p2ak3, .slice p2a4 Y.2.length p2ak4]) := hs
            clear hs
            have hS2 := bl_step hb hS.size hS
            refine hK.out _ _ hS2 ?_
            clear hK K hS
            clear hS2 hb
            refine restK_pure (v := ?_) 5 rfl (by kernel_rfl) (by kernel_rfl) (by kernel_rfl) (by kernel_rfl) (fun _ _ _ h => h) (by rfl) ?_ ?_
            rotate_left
            · intro w9; go_simp; try with_reducible rfl
            try simp only [Act.put, List.setIfInBounds_toArray, List.set_cons_zero, List.set_cons_succ]
            refine restK_pure (v := ?_) 6 rfl (by kernel_rfl) (by kernel_rfl) (by kernel_rfl) (by kernel_rfl) (fun _ _ _ h => h) (by rfl) ?_ ?_
            rotate_left
            · intro w9; go_simp; try with_reducible rfl
            try simp only [Act.put, List.setIfInBounds_toArray, List.set_cons_zero, List.set_cons_succ]
            refine restK_pure (v := ?_) 7 rfl (by kernel_rfl) (by kernel_rfl) (by kernel_rfl) (by kernel_rfl) (fun _ _ _ h => h) (by rfl) ?_ ?_
            rotate_left
            · intro w9; go_simp; try with_reducible rfl
            try simp only [Act.put, List.setIfInBounds_toArray, List.set_cons_zero, List.set_cons_succ]
            refine restK_alone 8 rfl (by kernel_rfl) (by rfl) (fun hS K hK => ?_)
            go_wp2_with fail
            have hS2 := hS.alloc hS.size (.cells ([.slice none 0 0, .slice none 0 0, .slice none 0 0, .slice none 0 0] : List Value).toArray 37)
            refine hK.out _ _ (hS2) ?_
            try simp only [Act.put, List.setIfInBounds_toArray, List.set_cons_zero, List.set_cons_succ]
            clear hK K hS
            clear hS2
            refine restK_break 9 rfl (by kernel_rfl) (by rfl) (by kernel_rfl) (fun hS K hK => ?_)
            go_wp2_with fail
            replace Qt2 := Qt2.alloc (.cells ([.slice p2a1 X.1.length p2ak1, .slice p2a2 X.2.length p2ak2, .slice p2a3 Y.1.length p2ak3, .slice p2a4 Y.2.length p2ak4] : List Value).toArray 37)
            replace Qt3 := Qt3.alloc (.cells ([.slice p2a1 X.1.length p2ak1, .slice p2a2 X.2.length p2ak2, .slice p2a3 Y.1.length p2ak3, .slice p2a4 Y.2.length p2ak4] : List Value).toArray 37)
            replace Ho1 := Lib.hid (Ho1.out.kp (kp_alloc (o := (.cells ([.slice p2a1 X.1.length p2ak1, .slice p2a2 X.2.length p2ak2, .slice p2a3 Y.1.length p2ak3, .slice p2a4 Y.2.length p2ak4] : List Value).toArray 37)) (by (first | (simp; done) | (simp; omega) | omega)) kp_refl))
            replace Ho2a := Lib.hid (Ho2a.out.kp (kp_alloc (o := (.cells ([.slice p2a1 X.1.length p2ak1, .slice p2a2 X.2.length p2ak2, .slice p2a3 Y.1.length p2ak3, .slice p2a4 Y.2.length p2ak4] : List Value).toArray 37)) (by (first | (simp; done) | (simp; omega) | omega)) kp_refl))
            have Qt6 := Bx.new v4 [.slice p2a1 X.1.length p2ak1, .slice p2a2 X.2.length p2ak2, .slice p2a3 Y.1.length p2ak3, .slice p2a4 Y.2.length p2ak4] 37
            replace HB := Lib.hid (HB.out.alloc HB.out.size (.cells ([.slice p2a1 X.1.length p2ak1, .slice p2a2 X.2.length p2ak2, .slice p2a3 Y.1.length p2ak3, .slice p2a4 Y.2.length p2ak4] : List Value).toArray 37))
            have hz9 := Qt6.1
            simp only [World.size_alloc] at hz9
            refine hK.out _ _ trivial ?_
            clear hK K hS
            refine rest_take (v := ?_) 10 rfl (by kernel_rfl) (by kernel_rfl) (by kernel_rfl) (fun _ _ _ h => h) (by rfl) ?_ ?_
            rotate_left
            · intro w9; go_simp; try with_reducible rfl
            try simp only [Act.put, List.setIfInBounds_toArray, List.set_cons_zero, List.set_cons_succ]
            refine rest_done (by kernel_rfl) ?_
            go_wp2_with fail
            go_meet
            exact ⟨v4.heap.size, p2a1, p2ak1, p2a2, p2ak2, p2a3, p2ak3, p2a4, p2ak4, v3.heap.size, v4.heap.size, rfl, rfl, Qt6, Qt2, Qt3, Ho2a, by (first | (simp; done) | (simp; omega) | omega), by (first | (simp; done) | (simp; omega) | omega), by (first | (simp; done) | (simp; omega) | omega), by (first | (simp; done) | (simp; omega) | omega), by (first | (simp; done) | (simp; omega) | omega), by have := hz9; (first | (simp; done) | (simp; omega) | omega), HB⟩
          · skip
            go_wp2_with fail
            have FB := Fx.new v3 [.slice none 0 0, .slice none 0 0, .slice none 0 0, .slice none 0 0] 37
            replace Qt2 := Qt2.alloc (.cells ([.slice none 0 0, .slice none 0 0, .slice none 0 0, .slice none 0 0] : List Value).toArray 37)
            replace Qt3 := Qt3.alloc (.cells ([.slice none 0 0, .slice none 0 0, .slice none 0 0, .slice none 0 0] : List Value).toArray 37)
            replace Ho1 := Lib.hid (Ho1.out.kp (kp_alloc (o := (.cells ([.slice none 0 0, .slice none 0 0, .slice none 0 0, .slice none 0 0] : List Value).toArray 37)) (by (first | (simp; done) | (simp; omega) | omega)) kp_refl))
            have Qt6 := Bx.new v3 [.slice none 0 0, .slice none 0 0, .slice none 0 0, .slice none 0 0] 37
            replace HB := Lib.hid (HB.out.alloc HB.out.size (.cells ([.slice none 0 0, .slice none 0 0, .slice none 0 0, .slice none 0 0] : List Value).toArray 37))
            have hS2 := hS.alloc hS.size (.cells ([.slice none 0 0, .slice none 0 0, .slice none 0 0, .slice none 0 0] : List Value).toArray 37)
            refine hK.out _ _ (hS2) ?_
            try simp only [Act.put, List.setIfInBounds_toArray, List.set_cons_zero, List.set_cons_succ]
            clear hK K hS
            clear hS2
            refine restK_alone 4 rfl (by kernel_rfl) (by rfl) (fun hS K hK => ?_)
            go_wp2_with fail
            refine (KS.out p11 p12 p13 p14 p1k1 p1k2 p1k3 p1k4 _ (Ho1.out).two.1 (Ho1.out).two.2).mono ?_
            rintro e9 v4 ⟨p2a1, p2ak1, p2a2, p2ak2, p2a3, p2ak3, p2a4, p2ak4, rfl, hs, hb⟩
            have hz3 := hb.size
            simp only [World.size_alloc] at hz3
            replace Qt2 := Qt2.below hb
            replace Qt3 := Qt3.below hb
            replace Qt6 := Qt6.below hb
            replace FB := FB.below hb
            replace Ho1 := Lib.hid (Ho1.out.kp (kp_of_below hb (by (first | (simp; done) | (simp; omega) | omega))))
            replace HB := Lib.hid (bl_step hb HB.out.size HB.out)
            replace qt2 := Qt2.2
            replace pt2 := Qt2.1
            replace lt2 := Nat.le_of_lt Qt2.1
            replace qt3 := Qt3.2
            replace pt3 := Qt3.1
            replace lt3 := Nat.le_of_lt Qt3.1
            have qt6 := Qt6.2
            have pt6 := Qt6.1
            have lt6 := Nat.le_of_lt Qt6.1
            simp only [World.size_alloc] at hs
            have Ho2a : Hid (Sp twoO v4 (v3.heap.size + 1) (v4.heap.size) (X, Y) [.slice p2a1 X.1.length p2ak1, .slice p2a2 X.2.length p2ak2, .slice p2a3 Y.1.length p2ak3, .slice p2a4 Y.2.length p2ak4]) := hs
            clear hs
            have hS2 := bl_step hb hS.size hS
            refine hK.out _ _ hS2 ?_
            clear hK K hS
            clear hS2 hb
            refine restK_pure (v := ?_) 5 rfl (by kernel_rfl) (by kernel_rfl) (by kernel_rfl) (by kernel_rfl) (fun _ _ _ h => h) (by rfl) ?_ ?_
            rotate_left
            · intro w9; go_simp; try with_reducible rfl
            try simp only [Act.put, List.setIfInBounds_toArray, List.set_cons_zero, List.set_cons_succ]
            refine restK_pure (v := ?_) 6 rfl (by kernel_rfl) (by kernel_rfl) (by kernel_rfl) (by kernel_rfl) (fun _ _ _ h => h) (by rfl) ?_ ?_
            rotate_left
            · intro w9; go_simp; try with_reducible rfl
            try simp only [Act.put, List.setIfInBounds_toArray, List.set_cons_zero, List.set_cons_succ]
            refine restK_pure (v := ?_) 7 rfl (by kernel_rfl) (by kernel_rfl) (by kernel_rfl) (by kernel_rfl) (fun _ _ _ h => h) (by rfl) ?_ ?_
            rotate_left
            · intro w9; go_simp; try with_reducible rfl
            try simp only [Act.put, List.setIfInBounds_toArray, List.set_cons_zero, List.set_cons_succ]
            refine restK_break 9 rfl (by kernel_rfl) (by rfl) (by kernel_rfl) (fun hS K hK => ?_)
            have fB9 := FB.2
            have hz9 := Qt6.1
            (try simp only [World.size_alloc, World.size_drew] at hz9)
            go_wp2_with fail
            clear fB9
            replace Qt2 := Qt2.setOther ⟨v3.heap.size, 0, none⟩ (.slice p2a1 X.1.length p2ak1) (by (first | (simp; done) | (simp; omega) | omega))
            replace Qt3 := Qt3.setOther ⟨v3.heap.size, 0, none⟩ (.slice p2a1 X.1.length p2ak1) (by (first | (simp; done) | (simp; omega) | omega))
            replace Qt6 := Qt6.set 0 (.slice p2a1 X.1.length p2ak1) (by simp)
            replace Ho1 := Lib.hid (Ho1.out.kp (kp_set (p := ⟨v3.heap.size, 0, none⟩) (u := .slice p2a1 X.1.length p2ak1) (by (first | (simp; done) | (simp; omega) | omega)) kp_refl))
            replace Ho2a := Lib.hid (Ho2a.out.kp (kp_set (p := ⟨v3.heap.size, 0, none⟩) (u := .slice p2a1 X.1.length p2ak1) (by (first | (simp; done) | (simp; omega) | omega)) kp_refl))
            replace HB := Lib.hid (HB.out.setCell (p := ⟨v3.heap.size, 0, none⟩) (by have := HB.out.size; (first | (simp; done) | (simp; omega) | omega)) (.slice p2a1 X.1.length p2ak1))
            replace Qt2 := Qt2.setOther ⟨v3.heap.size, 1, none⟩ (.slice p2a2 X.2.length p2ak2) (by (first | (simp; done) | (simp; omega) | omega))
            replace Qt3 := Qt3.setOther ⟨v3.heap.size, 1, none⟩ (.slice p2a2 X.2.length p2ak2) (by (first | (simp; done) | (simp; omega) | omega))
            replace Qt6 := Qt6.set 1 (.slice p2a2 X.2.length p2ak2) (by simp)
            replace Ho1 := Lib.hid (Ho1.out.kp (kp_set (p := ⟨v3.heap.size, 1, none⟩) (u := .slice p2a2 X.2.length p2ak2) (by (first | (simp; done) | (simp; omega) | omega)) kp_refl))
            replace Ho2a := Lib.hid (Ho2a.out.kp (kp_set (p := ⟨v3.heap.size, 1, none⟩) (u := .slice p2a2 X.2.length p2ak2) (by (first | (simp; done) | (simp; omega) | omega)) kp_refl))
            replace HB := Lib.hid (HB.out.setCell (p := ⟨v3.heap.size, 1, none⟩) (by have := HB.out.size; (first | (simp; done) | (simp; omega) | omega)) (.slice p2a2 X.2.length p2ak2))
            replace Qt2 := Qt2.setOther ⟨v3.heap.size, 2, none⟩ (.slice p2a3 Y.1.length p2ak3) (by (first | (simp; done) | (simp; omega) | omega))
            replace Qt3 := Qt3.setOther ⟨v3.heap.size, 2, none⟩ (.slice p2a3 Y.1.length p2ak3) (by (first | (simp; done) | (simp; omega) | omega))
            replace Qt6 := Qt6.set 2 (.slice p2a3 Y.1.length p2ak3) (by simp)
            replace Ho1 := Lib.hid (Ho1.out.kp (kp_set (p := ⟨v3.heap.size, 2, none⟩) (u := .slice p2a3 Y.1.length p2ak3) (by (first | (simp; done) | (simp; omega) | omega)) kp_refl))
            replace Ho2a := Lib.hid (Ho2a.out.kp (kp_set (p := ⟨v3.heap.size, 2, none⟩) (u := .slice p2a3 Y.1.length p2ak3) (by (first | (simp; done) | (simp; omega) | omega)) kp_refl))
            replace HB := Lib.hid (HB.out.setCell (p := ⟨v3.heap.size, 2, none⟩) (by have := HB.out.size; (first | (simp; done) | (simp; omega) | omega)) (.slice p2a3 Y.1.length p2ak3))
            replace Qt2 := Qt2.setOther ⟨v3.heap.size, 3, none⟩ (.slice p2a4 Y.2.length p2ak4) (by (first | (simp; done) | (simp; omega) | omega))
            replace Qt3 := Qt3.setOther ⟨v3.heap.size, 3, none⟩ (.slice p2a4 Y.2.length p2ak4) (by (first | (simp; done) | (simp; omega) | omega))
            replace Qt6 := Qt6.set 3 (.slice p2a4 Y.2.length p2ak4) (by simp)
            replace Ho1 := Lib.hid (Ho1.out.kp (kp_set (p := ⟨v3.heap.size, 3, none⟩) (u := .slice p2a4 Y.2.length p2ak4) (by (first | (simp; done) | (simp; omega) | omega)) kp_refl))
            replace Ho2a := Lib.hid (Ho2a.out.kp (kp_set (p := ⟨v3.heap.size, 3, none⟩) (u := .slice p2a4 Y.2.length p2ak4) (by (first | (simp; done) | (simp; omega) | omega)) kp_refl))
            replace HB := Lib.hid (HB.out.setCell (p := ⟨v3.heap.size, 3, none⟩) (by have := HB.out.size; (first | (simp; done) | (simp; omega) | omega)) (.slice p2a4 Y.2.length p2ak4))
            simp only [List.set_cons_succ, List.set_cons_zero] at Qt6
            refine hK.out _ _ trivial ?_
            clear hK K hS
            refine rest_take (v := ?_) 10 rfl (by kernel_rfl) (by kernel_rfl) (by kernel_rfl) (fun _ _ _ h => h) (by rfl) ?_ ?_
            rotate_left
            · intro w9; go_simp; try with_reducible rfl
            try simp only [Act.put, List.setIfInBounds_toArray, List.set_cons_zero, List.set_cons_succ]
            refine rest_done (by kernel_rfl) ?_
            go_wp2_with fail
            go_meet
            exact ⟨v3.heap.size, p2a1, p2ak1, p2a2, p2ak2, p2a3, p2ak3, p2a4, p2ak4, v3.heap.size + 1, v4.heap.size, rfl, rfl, Qt6, Qt2, Qt3, Ho2a, by (first | (simp; done) | (simp; omega) | omega), by (first | (simp; done) | (simp; omega) | omega), by (first | (simp; done) | (simp; omega) | omega), by (first | (simp; done) | (simp; omega) | omega), by (first | (simp; done) | (simp; omega) | omega), by have := hz9; (first | (simp; done) | (simp; omega) | omega), HB⟩
        · skip
          go_wp2_with fail
          have FB := Fx.new v2 [.slice none 0 0, .slice none 0 0, .slice none 0 0, .slice none 0 0] 37
          replace Qt2 := Qt2.alloc (.cells ([.slice none 0 0, .slice none 0 0, .slice none 0 0, .slice none 0 0] : List Value).toArray 37)
          replace Qt3 := Qt3.alloc (.cells ([.slice none 0 0, .slice none 0 0, .slice none 0 0, .slice none 0 0] : List Value).toArray 37)
          replace Ho1 := Lib.hid (Ho1.out.kp (kp_alloc (o := (.cells ([.slice none 0 0, .slice none 0 0, .slice none 0 0, .slice none 0 0] : List Value).toArray 37)) (by (first | (simp; done) | (simp; omega) | omega)) kp_refl))
          have Qt6 := Bx.new v2 [.slice none 0 0, .slice none 0 0, .slice none 0 0, .slice none 0 0] 37
          replace HB := Lib.hid (HB.out.alloc HB.out.size (.cells ([.slice none 0 0, .slice none 0 0, .slice none 0 0, .slice none 0 0] : List Value).toArray 37))
          have hS2 := hS.alloc hS.size (.cells ([.slice none 0 0, .slice none 0 0, .slice none 0 0, .slice none 0 0] : List Value).toArray 37)
          refine hK.out _ _ (hS2) ?_
          try simp only [Act.put, List.setIfInBounds_toArray, List.set_cons_zero, List.set_cons_succ]
          clear hK K hS
          clear hS2
          refine restK_alone 3 rfl (by kernel_rfl) (by rfl) (fun hS K hK => ?_)
          go_wp2_with fail
          refine (c_laws_toEntry i t c s k a b x y _).mono ?_
          rintro e9 v3 ⟨rfl, hb⟩
          have hz2 := hb.size
          simp only [World.size_alloc] at hz2
          replace Qt2 := Qt2.below hb
          replace Qt3 := Qt3.below hb
          replace Qt6 := Qt6.below hb
          replace FB := FB.below hb
          replace Ho1 := Lib.hid (Ho1.out.kp (kp_of_below hb (by (first | (simp; done) | (simp; omega) | omega))))
          replace HB := Lib.hid (bl_step hb HB.out.size HB.out)
          replace qt2 := Qt2.2
          replace pt2 := Qt2.1
          replace lt2 := Nat.le_of_lt Qt2.1
          replace qt3 := Qt3.2
          replace pt3 := Qt3.1
          replace lt3 := Nat.le_of_lt Qt3.1
          have qt6 := Qt6.2
          have pt6 := Qt6.1
          have lt6 := Nat.le_of_lt Qt6.1
          have hS2 := bl_step hb hS.size hS
          refine hK.out _ _ (hS2) ?_
          try simp only [Act.put, List.setIfInBounds_toArray, List.set_cons_zero, List.set_cons_succ]
          clear hK K hS
          clear hS2 hb
          refine restK_alone 4 rfl (by kernel_rfl) (by rfl) (fun hS K hK => ?_)
          go_wp2_with fail
          refine (KS.out p11 p12 p13 p14 p1k1 p1k2 p1k3 p1k4 _ (Ho1.out).two.1 (Ho1.out).two.2).mono ?_
          rintro e9 v4 ⟨p2a1, p2ak1, p2a2, p2ak2, p2a3, p2ak3, p2a4, p2ak4, rfl, hs, hb⟩
          have hz3 := hb.size
          replace Qt2 := Qt2.below hb
          replace Qt3 := Qt3.below hb
          replace Qt6 := Qt6.below hb
          replace FB := FB.below hb
          replace Ho1 := Lib.hid (Ho1.out.kp (kp_of_below hb (by (first | (simp; done) | (simp; omega) | omega))))
          replace HB := Lib.hid (bl_step hb HB.out.size HB.out)
          replace qt2 := Qt2.2
          replace pt2 := Qt2.1
          replace lt2 := Nat.le_of_lt Qt2.1
          replace qt3 := Qt3.2
          replace pt3 := Qt3.1
          replace lt3 := Nat.le_of_lt Qt3.1
          replace qt6 := Qt6.2
          replace pt6 := Qt6.1
          replace lt6 := Nat.le_of_lt Qt6.1
          dsimp only at hs
          have Ho2a : Hid (Sp twoO v4 (v3.heap.size) (v4.heap.size) (X, Y) [.slice p2a1 X.1.length p2ak1, .slice p2a2 X.2.length p2ak2, .slice p2a3 Y.1.length p2ak3, .slice p2a4 Y.2.length p2ak4]) := hs
          clear hs
          have hS2 := bl_step hb hS.size hS
          refine hK.out _ _ hS2 ?_
          clear hK K hS
          clear hS2 hb
          refine restK_pure (v := ?_) 5 rfl (by kernel_rfl) (by kernel_rfl) (by kernel_rfl) (by kernel_rfl) (fun _ _ _ h => h) (by rfl) ?_ ?_
          rotate_left
          · intro w9; go_simp; try with_reducible rfl
          try simp only [Act.put, List.setIfInBounds_toArray, List.set_cons_zero, List.set_cons_succ]
          refine restK_pure (v := ?_) 6 rfl (by kernel_rfl) (by kernel_rfl) (by kernel_rfl) (by kernel_rfl) (fun _ _ _ h => h) (by rfl) ?_ ?_
          rotate_left
          · intro w9; go_simp; try with_reducible rfl
          try simp only [Act.put, List.setIfInBounds_toArray, List.set_cons_zero, List.set_cons_succ]
          refine restK_pure (v := ?_) 7 rfl (by kernel_rfl) (by kernel_rfl) (by kernel_rfl) (by kernel_rfl) (fun _ _ _ h => h) (by rfl) ?_ ?_
          rotate_left
          · intro w9; go_simp; try with_reducible rfl
          try simp only [Act.put, List.setIfInBounds_toArray, List.set_cons_zero, List.set_cons_succ]
          refine restK_break 9 rfl (by kernel_rfl) (by rfl) (by kernel_rfl) (fun hS K hK => ?_)
          have fB9 := FB.2
          have hz9 := Qt6.1
          (try simp only [World.size_alloc, World.size_drew] at hz9)
          go_wp2_with fail
          clear fB9
          replace Qt2 := Qt2.setOther ⟨v2.heap.size, 0, none⟩ (.slice p2a1 X.1.length p2ak1) (by (first | (simp; done) | (simp; omega) | omega))
          replace Qt3 := Qt3.setOther ⟨v2.heap.size, 0, none⟩ (.slice p2a1 X.1.length p2ak1) (by (first | (simp; done) | (simp; omega) | omega))
          replace Qt6 := Qt6.set 0 (.slice p2a1 X.1.length p2ak1) (by simp)
          replace Ho1 := Lib.hid (Ho1.out.kp (kp_set (p := ⟨v2.heap.size, 0, none⟩) (u := .slice p2a1 X.1.length p2ak1) (by (first | (simp; done) | (simp; omega) | omega)) kp_refl))
          replace Ho2a := Lib.hid (Ho2a.out.kp (kp_set (p := ⟨v2.heap.size, 0, none⟩) (u := .slice p2a1 X.1.length p2ak1) (by (first | (simp; done) | (simp; omega) | omega)) kp_refl))
          replace HB := Lib.hid (HB.out.setCell (p := ⟨v2.heap.size, 0, none⟩) (by have := HB.out.size; (first | (simp; done) | (simp; omega) | omega)) (.slice p2a1 X.1.length p2ak1))
          replace Qt2 := Qt2.setOther ⟨v2.heap.size, 1, none⟩ (.slice p2a2 X.2.length p2ak2) (by (first | (simp; done) | (simp; omega) | omega))
          replace Qt3 := Qt3.setOther ⟨v2.heap.size, 1, none⟩ (.slice p2a2 X.2.length p2ak2) (by (first | (simp; done) | (simp; omega) | omega))
          replace Qt6 := Qt6.set 1 (.slice p2a2 X.2.length p2ak2) (by simp)
          replace Ho1 := Lib.hid (Ho1.out.kp (kp_set (p := ⟨v2.heap.size, 1, none⟩) (u := .slice p2a2 X.2.length p2ak2) (by (first | (simp; done) | (simp; omega) | omega)) kp_refl))
          replace Ho2a := Lib.hid (Ho2a.out.kp (kp_set (p := ⟨v2.heap.size, 1, none⟩) (u := .slice p2a2 X.2.length p2ak2) (by (first | (simp; done) | (simp; omega) | omega)) kp_refl))
          replace HB := Lib.hid (HB.out.setCell (p := ⟨v2.heap.size, 1, none⟩) (by have := HB.out.size; (first | (simp; done) | (simp; omega) | omega)) (.slice p2a2 X.2.length p2ak2))
          replace Qt2 := Qt2.setOther ⟨v2.heap.size, 2, none⟩ (.slice p2a3 Y.1.length p2ak3) (by (first | (simp; done) | (simp; omega) | omega))
          replace Qt3 := Qt3.setOther ⟨v2.heap.size, 2, none⟩ (.slice p2a3 Y.1.length p2ak3) (by (first | (simp; done) | (simp; omega) | omega))
          replace Qt6 := Qt6.set 2 (.slice p2a3 Y.1.length p2ak3) (by simp)
          replace Ho1 := Lib.hid (Ho1.out.kp (kp_set (p := ⟨v2.heap.size, 2, none⟩) (u := .slice p2a3 Y.1.length p2ak3) (by (first | (simp; done) | (simp; omega) | omega)) kp_refl))
          replace Ho2a := Lib.hid (Ho2a.out.kp (kp_set (p := ⟨v2.heap.size, 2, none⟩) (u := .slice p2a3 Y.1.length p2ak3) (by (first | (simp; done) | (simp; omega) | omega)) kp_refl))
          replace HB := Lib.hid (HB.out.setCell (p := ⟨v2.heap.size, 2, none⟩) (by have := HB.out.size; (first | (simp; done) | (simp; omega) | omega)) (.slice p2a3 Y.1.length p2ak3))
          replace Qt2 := Qt2.setOther ⟨v2.heap.size, 3, none⟩ (.slice p2a4 Y.2.length p2ak4) (by (first | (simp; done) | (simp; omega) | omega))
          replace Qt3 := Qt3.setOther ⟨v2.heap.size, 3, none⟩ (.slice p2a4 Y.2.length p2ak4) (by (first | (simp; done) | (simp; omega) | omega))
          replace Qt6 := Qt6.set 3 (.slice p2a4 Y.2.length p2ak4) (by simp)
          replace Ho1 := Lib.hid (Ho1.out.kp (kp_set (p := ⟨v2.heap.size, 3, none⟩) (u := .slice p2a4 Y.2.length p2ak4) (by (first | (simp; done) | (simp; omega) | omega)) kp_refl))
          replace Ho2a := Lib.hid (Ho2a.out.kp (kp_set (p := ⟨v2.heap.size, 3, none⟩) (u := .slice p2a4 Y.2.length p2ak4) (by (first | (simp; done) | (simp; omega) | omega)) kp_refl))
          replace HB := Lib.hid (HB.out.setCell (p := ⟨v2.heap.size, 3, none⟩) (by have := HB.out.size; (first | (simp; done) | (simp; omega) | omega)) (.slice p2a4 Y.2.length p2ak4))
          simp only [List.set_cons_succ, List.set_cons_zero] at Qt6
          refine hK.out _ _ trivial ?_
          clear hK K hS
          refine rest_take (v := ?_) 10 rfl (by kernel_rfl) (by kernel_rfl) (by kernel_rfl) (fun _ _ _ h => h) (by rfl) ?_ ?_
          rotate_left
          · intro w9; go_simp; try with_reducible rfl
          try simp only [Act.put, List.setIfInBounds_toArray, List.set_cons_zero, List.set_cons_succ]
          refine rest_done (by kernel_rfl) ?_
          go_wp2_with fail
          go_meet
          exact ⟨v2.heap.size, p2a1, p2ak1, p2a2, p2ak2, p2a3, p2ak3, p2a4, p2ak4, v3.heap.size, v4.heap.size, rfl, rfl, Qt6, Qt2, Qt3, Ho2a, by (first | (simp; done) | (simp; omega) | omega), by (first | (simp; done) | (simp; omega) | omega), by (first | (simp; done) | (simp; omega) | omega), by (first | (simp; done) | (simp; omega) | omega), by (first | (simp; done) | (simp; omega) | omega), by have := hz9; (first | (simp; done) | (simp; omega) | omega), HB⟩
      · skip
        replace Qt2 := Qt2.drew
        replace Qt3 := Qt3.drew
        replace HB := Lib.hid HB.out.drew
        go_wp2_with fail
        have FB := Fx.new v1.drew [.slice none 0 0, .slice none 0 0, .slice none 0 0, .slice none 0 0] 37
        simp only [World.size_drew] at FB
        replace Qt2 := Qt2.alloc (.cells ([.slice none 0 0, .slice none 0 0, .slice none 0 0, .slice none 0 0] : List Value).toArray 37)
        replace Qt3 := Qt3.alloc (.cells ([.slice none 0 0, .slice none 0 0, .slice none 0 0, .slice none 0 0] : List Value).toArray 37)
        have Qt6 := Bx.new v1.drew [.slice none 0 0, .slice none 0 0, .slice none 0 0, .slice none 0 0] 37
        simp only [World.size_drew] at Qt6
        replace HB := Lib.hid (HB.out.alloc HB.out.size (.cells ([.slice none 0 0, .slice none 0 0, .slice none 0 0, .slice none 0 0] : List Value).toArray 37))
        have hS2 := hS.alloc hS.size (.cells ([.slice none 0 0, .slice none 0 0, .slice none 0 0, .slice none 0 0] : List Value).toArray 37)
        refine hK.out _ _ (hS2) ?_
        try simp only [Act.put, List.setIfInBounds_toArray, List.set_cons_zero, List.set_cons_succ]
        clear hK K hS
        clear hS2
        refine restK_alone 1 rfl (by kernel_rfl) (by rfl) (fun hS K hK => ?_)
        go_wp2_with fail
        refine (c_toTwo a1 a2 a3 a4 ak1 ak2 ak3 ak4 d e _ (HD.out _ HB.out) (HE.out _ HB.out) HSd.out.1 HSe.out.1).mono ?_
        rintro e9 v2 ⟨p11, p1k1, p12, p1k2, p13, p1k3, p14, p1k4, rfl, hs, hb⟩
        have hz1 := hb.size
        simp only [World.size_alloc, World.size_drew] at hz1
        replace Qt2 := Qt2.below hb
        replace Qt3 := Qt3.below hb
        replace Qt6 := Qt6.below hb
        replace FB := FB.below hb
        replace HB := Lib.hid (bl_step hb HB.out.size HB.out)
        replace qt2 := Qt2.2
        replace pt2 := Qt2.1
        replace lt2 := Nat.le_of_lt Qt2.1
        replace qt3 := Qt3.2
        replace pt3 := Qt3.1
        replace lt3 := Nat.le_of_lt Qt3.1
        have qt6 := Qt6.2
        have pt6 := Qt6.1
        have lt6 := Nat.le_of_lt Qt6.1
        simp only [World.size_alloc, World.size_drew] at hs
        have Ho1 : Hid (Sp twoO v2 (v1.heap.size + 1) (v2.heap.size) (d, e) [.slice p11 d.1.length p1k1, .slice p12 d.2.length p1k2, .slice p13 e.1.length p1k3, .slice p14 e.2.length p1k4]) := hs
        clear hs
        have hS2 := bl_step hb hS.size hS
        refine hK.out _ _ (hS2) ?_
        try simp only [Act.put, List.setIfInBounds_toArray, List.set_cons_zero, List.set_cons_succ]
        clear hK K hS
        clear hS2 hb
        refine restK_alone 3 rfl (by kernel_rfl) (by rfl) (fun hS K hK => ?_)
        go_wp2_with fail
        refine (c_laws_toEntry i t c s k a b x y _).mono ?_
        rintro e9 v3 ⟨rfl, hb⟩
        have hz2 := hb.size
        replace Qt2 := Qt2.below hb
        replace Qt3 := Qt3.below hb
        replace Qt6 := Qt6.below hb
        replace FB := FB.below hb
        replace Ho1 := Lib.hid (Ho1.out.kp (kp_of_below hb (by (first | (simp; done) | (simp; omega) | omega))))
        replace HB := Lib.hid (bl_step hb HB.out.size HB.out)
        replace qt2 := Qt2.2
        replace pt2 := Qt2.1
        replace lt2 := Nat.le_of_lt Qt2.1
        replace qt3 := Qt3.2
        replace pt3 := Qt3.1
        replace lt3 := Nat.le_of_lt Qt3.1
        replace qt6 := Qt6.2
        replace pt6 := Qt6.1
        replace lt6 := Nat.le_of_lt Qt6.1
        have hS2 := bl_step hb hS.size hS
        refine hK.out _ _ (hS2) ?_
        try simp only [Act.put, List.setIfInBounds_toArray, List.set_cons_zero, List.set_cons_succ]
        clear hK K hS
        clear hS2 hb
        refine restK_alone 4 rfl (by kernel_rfl) (by rfl) (fun hS K hK => ?_)
        go_wp2_with fail
        refine (KS.out p11 p12 p13 p14 p1k1 p1k2 p1k3 p1k4 _ (Ho1.out).two.1 (Ho1.out).two.2).mono ?_
        rintro e9 v4 ⟨p2a1, p2ak1, p2a2, p2ak2, p2a3, p2ak3, p2a4, p2ak4, rfl, hs, hb⟩
        have hz3 := hb.size
        replace Qt2 := Qt2.below hb
        replace Qt3 := Qt3.below hb
        replace Qt6 := Qt6.below hb
        replace FB := FB.below hb
        replace Ho1 := Lib.hid (Ho1.out.kp (kp_of_below hb (by (first | (simp; done) | (simp; omega) | omega))))
        replace HB := Lib.hid (bl_step hb HB.out.size HB.out)
        replace qt2 := Qt2.2
        replace pt2 := Qt2.1
        replace lt2 := Nat.le_of_lt Qt2.1
        replace qt3 := Qt3.2
        replace pt3 := Qt3.1
        replace lt3 := Nat.le_of_lt Qt3.1
        replace qt6 := Qt6.2
        replace pt6 := Qt6.1
        replace lt6 := Nat.le_of_lt Qt6.1
        dsimp only at hs
        have Ho2a : Hid (Sp twoO v4 (v3.heap.size) (v4.heap.size) (X, Y) [.slice p2a1 X.1.length p2ak1, .slice p2a2 X.2.length p2ak2, .slice p2a3 Y.1.length p2ak3, .slice p2a4 Y.2.length p2ak4]) := hs
        clear hs
        have hS2 := bl_step hb hS.size hS
        refine hK.out _ _ hS2 ?_
        clear hK K hS
        clear hS2 hb
        refine restK_pure (v := ?_) 5 rfl (by kernel_rfl) (by kernel_rfl) (by kernel_rfl) (by kernel_rfl) (fun _ _ _ h => h) (by rfl) ?_ ?_
        rotate_left
        · intro w9; go_simp; try with_reducible rfl
        try simp only [Act.put, List.setIfInBounds_toArray, List.set_cons_zero, List.set_cons_succ]
        refine restK_pure (v := ?_) 6 rfl (by kernel_rfl) (by kernel_rfl) (by kernel_rfl) (by kernel_rfl) (fun _ _ _ h => h) (by rfl) ?_ ?_
        rotate_left
        · intro w9; go_simp; try with_reducible rfl
        try simp only [Act.put, List.setIfInBounds_toArray, List.set_cons_zero, List.set_cons_succ]
        refine restK_pure (v := ?_) 7 rfl (by kernel_rfl) (by kernel_rfl) (by kernel_rfl) (by kernel_rfl) (fun _ _ _ h => h) (by rfl) ?_ ?_
        rotate_left
        · intro w9; go_simp; try with_reducible rfl
        try simp only [Act.put, List.setIfInBounds_toArray, List.set_cons_zero, List.set_cons_succ]
        refine restK_break 9 rfl (by kernel_rfl) (by rfl) (by kernel_rfl) (fun hS K hK => ?_)
        have fB9 := FB.2
        have hz9 := Qt6.1
        (try simp only [World.size_alloc, World.size_drew] at hz9)
        go_wp2_with fail
        clear fB9
        replace Qt2 := Qt2.setOther ⟨v1.heap.size, 0, none⟩ (.slice p2a1 X.1.length p2ak1) (by (first | (simp; done) | (simp; omega) | omega))
        replace Qt3 := Qt3.setOther ⟨v1.heap.size, 0, none⟩ (.slice p2a1 X.1.length p2ak1) (by (first | (simp; done) | (simp; omega) | omega))
        replace Qt6 := Qt6.set 0 (.slice p2a1 X.1.length p2ak1) (by simp)
        replace Ho1 := Lib.hid (Ho1.out.kp (kp_set (p := ⟨v1.heap.size, 0, none⟩) (u := .slice p2a1 X.1.length p2ak1) (by (first | (simp; done) | (simp; omega) | omega)) kp_refl))
        replace Ho2a := Lib.hid (Ho2a.out.kp (kp_set (p := ⟨v1.heap.size, 0, none⟩) (u := .slice p2a1 X.1.length p2ak1) (by (first | (simp; done) | (simp; omega) | omega)) kp_refl))
        replace HB := Lib.hid (HB.out.setCell (p := ⟨v1.heap.size, 0, none⟩) (by have := HB.out.size; (first | (simp; done) | (simp; omega) | omega)) (.slice p2a1 X.1.length p2ak1))
        replace Qt2 := Qt2.setOther ⟨v1.heap.size, 1, none⟩ (.slice p2a2 X.2.length p2ak2) (by (first | (simp; done) | (simp; omega) | omega))
        replace Qt3 := Qt3.setOther ⟨v1.heap.size, 1, none⟩ (.slice p2a2 X.2.length p2ak2) (by (first | (simp; done) | (simp; omega) | omega))
        replace Qt6 := Qt6.set 1 (.slice p2a2 X.2.length p2ak2) (by simp)
        replace Ho1 := Lib.hid (Ho1.out.kp (kp_set (p := ⟨v1.heap.size, 1, none⟩) (u := .slice p2a2 X.2.length p2ak2) (by (first | (simp; done) | (simp; omega) | omega)) kp_refl))
        replace Ho2a := Lib.hid (Ho2a.out.kp (kp_set (p := ⟨v1.heap.size, 1, none⟩) (u := .slice p2a2 X.2.length p2ak2) (by (first | (simp; done) | (simp; omega) | omega)) kp_refl))
        replace HB := Lib.hid (HB.out.setCell (p := ⟨v1.heap.size, 1, none⟩) (by have := HB.out.size; (first | (simp; done) | (simp; omega) | omega)) (.slice p2a2 X.2.length p2ak2))
        replace Qt2 := Qt2.setOther ⟨v1.heap.size, 2, none⟩ (.slice p2a3 Y.1.length p2ak3) (by (first | (simp; done) | (simp; omega) | omega))
        replace Qt3 := Qt3.setOther ⟨v1.heap.size, 2, none⟩ (.slice p2a3 Y.1.length p2ak3) (by (first | (simp; done) | (simp; omega) | omega))
        replace Qt6 := Qt6.set 2 (.slice p2a3 Y.1.length p2ak3) (by simp)
        replace Ho1 := Lib.hid (Ho1.out.kp (kp_set (p := ⟨v1.heap.size, 2, none⟩) (u := .slice p2a3 Y.1.length p2ak3) (by (first | (simp; done) | (simp; omega) | omega)) kp_refl))
        replace Ho2a := Lib.hid (Ho2a.out.kp (kp_set (p := ⟨v1.heap.size, 2, none⟩) (u := .slice p2a3 Y.1.length p2ak3) (by (first | (simp; done) | (simp; omega) | omega)) kp_refl))
        replace HB := Lib.hid (HB.out.setCell (p := ⟨v1.heap.size, 2, none⟩) (by have := HB.out.size; (first | (simp; done) | (simp; omega) | omega)) (.slice p2a3 Y.1.length p2ak3))
        replace Qt2 := Qt2.setOther ⟨v1.heap.size, 3, none⟩ (.slice p2a4 Y.2.length p2ak4) (by (first | (simp; done) | (simp; omega) | omega))
        replace Qt3 := Qt3.setOther ⟨v1.heap.size, 3, none⟩ (.slice p2a4 Y.2.length p2ak4) (by (first | (simp; done) | (simp; omega) | omega))
        replace Qt6 := Qt6.set 3 (.slice p2a4 Y.2.length p2ak4) (by simp)
        replace Ho1 := Lib.hid (Ho1.out.kp (kp_set (p := ⟨v1.heap.size, 3, none⟩) (u := .slice p2a4 Y.2.length p2ak4) (by (first | (simp; done) | (simp; omega) | omega)) kp_refl))
        replace Ho2a := Lib.hid (Ho2a.out.kp (kp_set (p := ⟨v1.heap.size, 3, none⟩) (u := .slice p2a4 Y.2.length p2ak4) (by (first | (simp; done) | (simp; omega) | omega)) kp_refl))
        replace HB := Lib.hid (HB.out.setCell (p := ⟨v1.heap.size, 3, none⟩) (by have := HB.out.size; (first | (simp; done) | (simp; omega) | omega)) (.slice p2a4 Y.2.length p2ak4))
        simp only [List.set_cons_succ, List.set_cons_zero] at Qt6
        refine hK.out _ _ trivial ?_
        clear hK K hS
        refine rest_take (v := ?_) 10 rfl (by kernel_rfl) (by kernel_rfl) (by kernel_rfl) (fun _ _ _ h => h) (by rfl) ?_ ?_
        rotate_left
        · intro w9; go_simp; try with_reducible rfl
        try simp only [Act.put, List.setIfInBounds_toArray, List.set_cons_zero, List.set_cons_succ]
        refine rest_done (by kernel_rfl) ?_
        go_wp2_with fail
        go_meet
        exact ⟨v1.heap.size, p2a1, p2ak1, p2a2, p2ak2, p2a3, p2ak3, p2a4, p2ak4, v3.heap.size, v4.heap.size, rfl, rfl, Qt6, Qt2, Qt3, Ho2a, by (first | (simp; done) | (simp; omega) | omega), by (first | (simp; done) | (simp; omega) | omega), by (first | (simp; done) | (simp; omega) | omega), by (first | (simp; done) | (simp; omega) | omega), by (first | (simp; done) | (simp; omega) | omega), by have := hz9; (first | (simp; done) | (simp; omega) | omega), HB⟩
    clear Qt2 qt2 pt2 lt2 Qt3 qt3 pt3 lt3 HB
    obtain ⟨B6, p2a1, p2ak1, p2a2, p2ak2, p2a3, p2ak3, p2a4, p2ak4, loo2a, hio2a, rfl, rfl, Qt6, Qt2, Qt3, Ho2a, hy0, hlo2a, hmo2a, hho2a, hdo2a, hw0, HB⟩ := hcut
    obtain ⟨v5, HV⟩ : ∃ V, Hid (V = wc) := ⟨wc, Lib.hid rfl⟩
    have eV := HV.out
    subst eV
    clear HV
    have hxt6 := Qt6.1
    have qt2 := Qt2.2
    have pt2 := Qt2.1
    have lt2 := Nat.le_of_lt Qt2.1
    have qt3 := Qt3.2
    have pt3 := Qt3.1
    have lt3 := Nat.le_of_lt Qt3.1
    have qt6 := Qt6.2
    have pt6 := Qt6.1
    have lt6 := Nat.le_of_lt Qt6.1
    go_wp2_with fail
    refine (c_toTwo a1 a2 a3 a4 ak1 ak2 ak3 ak4 d e _ (HD.out _ HB.out) (HE.out _ HB.out) HSd.out.1 HSe.out.1).mono ?_
    rintro e9 v6 ⟨p31, p3k1, p32, p3k2, p33, p3k3, p34, p3k4, rfl, hs, hb⟩
    have hz1 := hb.size
    replace Qt2 := Qt2.below hb
    replace Qt3 := Qt3.below hb
    replace Qt6 := Qt6.below hb
    replace Ho2a := Lib.hid (Ho2a.out.kp (kp_of_below hb (by (first | (simp; done) | (simp; omega) | omega))))
    replace HB := Lib.hid (bl_step hb HB.out.size HB.out)
    replace qt2 := Qt2.2
    replace pt2 := Qt2.1
    replace lt2 := Nat.le_of_lt Qt2.1
    replace qt3 := Qt3.2
    replace pt3 := Qt3.1
    replace lt3 := Nat.le_of_lt Qt3.1
    replace qt6 := Qt6.2
    replace pt6 := Qt6.1
    replace lt6 := Nat.le_of_lt Qt6.1
    have Ho3 : Hid (Sp twoO v6 (v5.heap.size) (v6.heap.size) (d, e) [.slice p31 d.1.length p3k1, .slice p32 d.2.length p3k2, .slice p33 e.1.length p3k3, .slice p34 e.2.length p3k4]) := hs
    clear hs
    clear hb
    replace Qt2 := Qt2.alloc (.cells ([.slice p31 d.1.length p3k1, .slice p32 d.2.length p3k2, .slice p33 e.1.length p3k3, .slice p34 e.2.length p3k4] : List Value).toArray 37)
    replace Qt3 := Qt3.alloc (.cells ([.slice p31 d.1.length p3k1, .slice p32 d.2.length p3k2, .slice p33 e.1.length p3k3, .slice p34 e.2.length p3k4] : List Value).toArray 37)
    replace Qt6 := Qt6.alloc (.cells ([.slice p31 d.1.length p3k1, .slice p32 d.2.length p3k2, .slice p33 e.1.length p3k3, .slice p34 e.2.length p3k4] : List Value).toArray 37)
    replace Ho2a := Lib.hid (Ho2a.out.kp (kp_alloc (o := (.cells ([.slice p31 d.1.length p3k1, .slice p32 d.2.length p3k2, .slice p33 e.1.length p3k3, .slice p34 e.2.length p3k4] : List Value).toArray 37)) (by (first | (simp; done) | (simp; omega) | omega)) kp_refl))
    replace Ho3 := Lib.hid (Ho3.out.kp (kp_alloc (o := (.cells ([.slice p31 d.1.length p3k1, .slice p32 d.2.length p3k2, .slice p33 e.1.length p3k3, .slice p34 e.2.length p3k4] : List Value).toArray 37)) (by (first | (simp; done) | (simp; omega) | omega)) kp_refl))
    have Qt8 := Bx.new v6 [.slice p31 d.1.length p3k1, .slice p32 d.2.length p3k2, .slice p33 e.1.length p3k3, .slice p34 e.2.length p3k4] 37
    replace HB := Lib.hid (HB.out.alloc HB.out.size (.cells ([.slice p31 d.1.length p3k1, .slice p32 d.2.length p3k2, .slice p33 e.1.length p3k3, .slice p34 e.2.length p3k4] : List Value).toArray 37))
    go_upto_region 7 with fail
    go_cut [9, 10] (fun s9 s10 wx => ∃ (B9 : Nat) (p4a1 : Option Addr) (p4ak1 : Nat) (p4a2 : Option Addr) (p4ak2 : Nat) (p4a3 : Option Addr) (p4ak3 : Nat) (p4a4 : Option Addr) (p4ak4 : Nat) (loo4a hio4a : Nat), s9 = .pointer (some ⟨B9, 0, none⟩) ∧ s10 = .bool f ∧ Bx wx B9 [.slice p4a1 X.1.length p4ak1, .slice p4a2 X.2.length p4ak2, .slice p4a3 Y.1.length p4ak3, .slice p4a4 Y.2.length p4ak4] ∧ Bx wx (w.heap.size) [.slice a1 d.1.length ak1, .slice a2 d.2.length ak2, .slice a3 e.1.length ak3, .slice a4 e.2.length ak4] ∧ Bx wx (w.heap.size + 1) [.int .i64 i, .int .i64 t, .int .i64 c, .int .i64 s, .int .i64 k, .int .i64 a, .int .i64 b, .int .i64 x, .int .i64 y] ∧ Bx wx (B6) [.slice p2a1 X.1.length p2ak1, .slice p2a2 X.2.length p2ak2, .slice p2a3 Y.1.length p2ak3, .slice p2a4 Y.2.length p2ak4] ∧ Bx wx (v6.heap.size) [.slice p31 d.1.length p3k1, .slice p32 d.2.length p3k2, .slice p33 e.1.length p3k3, .slice p34 e.2.length p3k4] ∧ Hid (Sp twoO wx (loo2a) (hio2a) (X, Y) [.slice p2a1 X.1.length p2ak1, .slice p2a2 X.2.length p2ak2, .slice p2a3 Y.1.length p2ak3, .slice p2a4 Y.2.length p2ak4]) ∧ Hid (Sp twoO wx (v5.heap.size) (v6.heap.size) (d, e) [.slice p31 d.1.length p3k1, .slice p32 d.2.length p3k2, .slice p33 e.1.length p3k3, .slice p34 e.2.length p3k4]) ∧ Hid (Sp twoO wx (loo4a) (hio4a) (X, Y) [.slice p4a1 X.1.length p4ak1, .slice p4a2 X.2.length p4ak2, .slice p4a3 Y.1.length p4ak3, .slice p4a4 Y.2.length p4ak4]) ∧ v6.heap.size + 1 ≤ B9 ∧ v6.heap.size + 1 ≤ loo4a ∧ loo4a ≤ hio4a ∧ hio4a ≤ wx.heap.size ∧ (B9 < loo4a ∨ hio4a ≤ B9) ∧ v6.heap.size + 1 ≤ wx.heap.size ∧ Hid (Below w.heap.size w wx))
    case first =>
      refine restK_begin [8] (by kernel_rfl) ?_
      refine restK_take (v := ?_) 0 rfl (by kernel_rfl) (by kernel_rfl) (by kernel_rfl) (by kernel_rfl) (by kernel_rfl) (by kernel_rfl) (fun _ _ _ h => h) (by rfl) ?_ ?_
      rotate_left
      · intro w9 h9; try dsimp only at h9
        obtain ⟨x9, rfl⟩ := later_of h9
        go_simp; try with_reducible rfl
      try simp only [Act.put, List.setIfInBounds_toArray, List.set_cons_zero, List.set_cons_succ]
      refine restK_take (v := ?_) 1 rfl (by kernel_rfl) (by kernel_rfl) (by kernel_rfl) (by kernel_rfl) (by kernel_rfl) (by kernel_rfl) (fun _ _ _ h => h) (by rfl) ?_ ?_
      rotate_left
      · intro w9 h9; try dsimp only at h9
        obtain ⟨x9, rfl⟩ := later_of h9
        go_simp; try with_reducible rfl
      try simp only [Act.put, List.setIfInBounds_toArray, List.set_cons_zero, List.set_cons_succ]
      refine restK_two 2 7 rfl rfl (by kernel_rfl) (by rfl) (by rfl) (fun hS K hK => ?_) (fun hS K hK => ?_)
      · skip
        replace Qt2 := Qt2.drew
        replace Qt3 := Qt3.drew
        replace Qt6 := Qt6.drew
        replace Qt8 := Qt8.drew
        replace Ho2a := Lib.hid (Ho2a.out.kp (kp_drew kp_refl))
        replace Ho3 := Lib.hid (Ho3.out.kp (kp_drew kp_refl))
        replace HB := Lib.hid HB.out.drew
        go_wp2_with fail
        refine (c_laws_toEntry i t c s k a b x y _).mono ?_
        rintro e9 v7 ⟨rfl, hb⟩
        have hz2 := hb.size
        simp only [World.size_alloc, World.size_drew] at hz2
        replace Qt2 := Qt2.below hb
        replace Qt3 := Qt3.below hb
        replace Qt6 := Qt6.below hb
        replace Qt8 := Qt8.below hb
        replace Ho2a := Lib.hid (Ho2a.out.kp (kp_of_below hb (by (first | (simp; done) | (simp; omega) | omega))))
        replace Ho3 := Lib.hid (Ho3.out.kp (kp_of_below hb (by (first | (simp; done) | (simp; omega) | omega))))
        replace HB := Lib.hid (bl_step hb HB.out.size HB.out)
        replace qt2 := Qt2.2
        replace pt2 := Qt2.1
        replace lt2 := Nat.le_of_lt Qt2.1
        replace qt3 := Qt3.2
        replace pt3 := Qt3.1
        replace lt3 := Nat.le_of_lt Qt3.1
        replace qt6 := Qt6.2
        replace pt6 := Qt6.1
        replace lt6 := Nat.le_of_lt Qt6.1
        have qt8 := Qt8.2
        have pt8 := Qt8.1
        have lt8 := Nat.le_of_lt Qt8.1
        have hS2 := bl_step hb hS.size hS
        refine hK.out _ _ (hS2) ?_
        try simp only [Act.put, List.setIfInBounds_toArray, List.set_cons_zero, List.set_cons_succ]
        clear hK K hS
        clear hS2 hb
        refine restK_two 3 7 rfl rfl (by kernel_rfl) (by rfl) (by rfl) (fun hS K hK => ?_) (fun hS K hK => ?_)
        · skip
          go_wp2_with fail
          refine (KI.out p31 p32 p33 p34 p3k1 p3k2 p3k3 p3k4 _ (Ho3.out).two.1 (Ho3.out).two.2).mono ?_
          rintro e9 v8 ⟨p4a1, p4ak1, p4a2, p4ak2, p4a3, p4ak3, p4a4, p4ak4, rfl, hs, hb⟩
          have hz3 := hb.size
          replace Qt2 := Qt2.below hb
          replace Qt3 := Qt3.below hb
          replace Qt6 := Qt6.below hb
          replace Qt8 := Qt8.below hb
          replace Ho2a := Lib.hid (Ho2a.out.kp (kp_of_below hb (by (first | (simp; done) | (simp; omega) | omega))))
          replace Ho3 := Lib.hid (Ho3.out.kp (kp_of_below hb (by (first | (simp; done) | (simp; omega) | omega))))
          replace HB := Lib.hid (bl_step hb HB.out.size HB.out)
          replace qt2 := Qt2.2
          replace pt2 := Qt2.1
          replace lt2 := Nat.le_of_lt Qt2.1
          replace qt3 := Qt3.2
          replace pt3 := Qt3.1
          replace lt3 := Nat.le_of_lt Qt3.1
          replace qt6 := Qt6.2
          replace pt6 := Qt6.1
          replace lt6 := Nat.le_of_lt Qt6.1
          replace qt8 := Qt8.2
          replace pt8 := Qt8.1
          replace lt8 := Nat.le_of_lt Qt8.1
          dsimp only at hs
          have Ho4a : Hid (Sp twoO v8 (v7.heap.size) (v8.heap.size) (X, Y) [.slice p4a1 X.1.length p4ak1, .slice p4a2 X.2.length p4ak2, .slice p4a3 Y.1.length p4ak3, .slice p4a4 Y.2.length p4ak4]) := hs
          clear hs
          have hS2 := bl_step hb hS.size hS
          refine hK.out _ _ hS2 ?_
          clear hK K hS
          clear hS2 hb
          refine restK_pure (v := ?_) 4 rfl (by kernel_rfl) (by kernel_rfl) (by kernel_rfl) (by kernel_rfl) (fun _ _ _ h => h) (by rfl) ?_ ?_
          rotate_left
          · intro w9; go_simp; try with_reducible rfl
          try simp only [Act.put, List.setIfInBounds_toArray, List.set_cons_zero, List.set_cons_succ]
          refine restK_pure (v := ?_) 5 rfl (by kernel_rfl) (by kernel_rfl) (by kernel_rfl) (by kernel_rfl) (fun _ _ _ h => h) (by rfl) ?_ ?_
          rotate_left
          · intro w9; go_simp; try with_reducible rfl
          try simp only [Act.put, List.setIfInBounds_toArray, List.set_cons_zero, List.set_cons_succ]
          refine restK_pure (v := ?_) 6 rfl (by kernel_rfl) (by kernel_rfl) (by kernel_rfl) (by kernel_rfl) (fun _ _ _ h => h) (by rfl) ?_ ?_
          rotate_left
          · intro w9; go_simp; try with_reducible rfl
          try simp only [Act.put, List.setIfInBounds_toArray, List.set_cons_zero, List.set_cons_succ]
          refine restK_alone 7 rfl (by kernel_rfl) (by rfl) (fun hS K hK => ?_)
          go_wp2_with fail
          have hS2 := hS.alloc hS.size (.cells ([.slice none 0 0, .slice none 0 0, .slice none 0 0, .slice none 0 0] : List Value).toArray 37)
          refine hK.out _ _ (hS2) ?_
          try simp only [Act.put, List.setIfInBounds_toArray, List.set_cons_zero, List.set_cons_succ]
          clear hK K hS
          clear hS2
          refine restK_break 8 rfl (by kernel_rfl) (by rfl) (by kernel_rfl) (fun hS K hK => ?_)
          go_wp2_with fail
          replace Qt2 := Qt2.alloc (.cells ([.slice p4a1 X.1.length p4ak1, .slice p4a2 X.2.length p4ak2, .slice p4a3 Y.1.length p4ak3, .slice p4a4 Y.2.length p4ak4] : List Value).toArray 37)
          replace Qt3 := Qt3.alloc (.cells ([.slice p4a1 X.1.length p4ak1, .slice p4a2 X.2.length p4ak2, .slice p4a3 Y.1.length p4ak3, .slice p4a4 Y.2.length p4ak4] : List Value).toArray 37)
          replace Qt6 := Qt6.alloc (.cells ([.slice p4a1 X.1.length p4ak1, .slice p4a2 X.2.length p4ak2, .slice p4a3 Y.1.length p4ak3, .slice p4a4 Y.2.length p4ak4] : List Value).toArray 37)
          replace Qt8 := Qt8.alloc (.cells ([.slice p4a1 X.1.length p4ak1, .slice p4a2 X.2.length p4ak2, .slice p4a3 Y.1.length p4ak3, .slice p4a4 Y.2.length p4ak4] : List Value).toArray 37)
          replace Ho2a := Lib.hid (Ho2a.out.kp (kp_alloc (o := (.cells ([.slice p4a1 X.1.length p4ak1, .slice p4a2 X.2.length p4ak2, .slice p4a3 Y.1.length p4ak3, .slice p4a4 Y.2.length p4ak4] : List Value).toArray 37)) (by (first | (simp; done) | (simp; omega) | omega)) kp_refl))
          replace Ho3 := Lib.hid (Ho3.out.kp (kp_alloc (o := (.cells ([.slice p4a1 X.1.length p4ak1, .slice p4a2 X.2.length p4ak2, .slice p4a3 Y.1.length p4ak3, .slice p4a4 Y.2.length p4ak4] : List Value).toArray 37)) (by (first | (simp; done) | (simp; omega) | omega)) kp_refl))
          replace Ho4a := Lib.hid (Ho4a.out.kp (kp_alloc (o := (.cells ([.slice p4a1 X.1.length p4ak1, .slice p4a2 X.2.length p4ak2, .slice p4a3 Y.1.length p4ak3, .slice p4a4 Y.2.length p4ak4] : List Value).toArray 37)) (by (first | (simp; done) | (simp; omega) | omega)) kp_refl))
          have Qt9 := Bx.new v8 [.slice p4a1 X.1.length p4ak1, .slice p4a2 X.2.length p4ak2, .slice p4a3 Y.1.length p4ak3, .slice p4a4 Y.2.length p4ak4] 37
          replace HB := Lib.hid (HB.out.alloc HB.out.size (.cells ([.slice p4a1 X.1.length p4ak1, .slice p4a2 X.2.length p4ak2, .slice p4a3 Y.1.length p4ak3, .slice p4a4 Y.2.length p4ak4] : List Value).toArray 37))
          have hz9 := Qt9.1
          simp only [World.size_alloc] at hz9
          refine hK.out _ _ trivial ?_
          clear hK K hS
          refine rest_take (v := ?_) 9 rfl (by kernel_rfl) (by kernel_rfl) (by kernel_rfl) (fun _ _ _ h => h) (by rfl) ?_ ?_
          rotate_left
          · intro w9; go_simp; try with_reducible rfl
          try simp only [Act.put, List.setIfInBounds_toArray, List.set_cons_zero, List.set_cons_succ]
          refine rest_done (by kernel_rfl) ?_
          go_wp2_with fail
          go_meet
          exact ⟨v8.heap.size, p4a1, p4ak1, p4a2, p4ak2, p4a3, p4ak3, p4a4, p4ak4, v7.heap.size, v8.heap.size, rfl, rfl, Qt9, Qt2, Qt3, Qt6, Qt8, Ho2a, Ho3, Ho4a, by (first | (simp; done) | (simp; omega) | omega), by (first | (simp; done) | (simp; omega) | omega), by (first | (simp; done) | (simp; omega) | omega), by (first | (simp; done) | (simp; omega) | omega), by (first | (simp; done) | (simp; omega) | omega), by have := hz9; (first | (simp; done) | (simp; omega) | omega), HB⟩
        · skip
          go_wp2_with fail
          have FB := Fx.new v7 [.slice none 0 0, .slice none 0 0, .slice none 0 0, .slice none 0 0] 37
          replace Qt2 := Qt2.alloc (.cells ([.slice none 0 0, .slice none 0 0, .slice none 0 0, .slice none 0 0] : List Value).toArray 37)
          replace Qt3 := Qt3.alloc (.cells ([.slice none 0 0, .slice none 0 0, .slice none 0 0, .slice none 0 0] : List Value).toArray 37)
          replace Qt6 := Qt6.alloc (.cells ([.slice none 0 0, .slice none 0 0, .slice none 0 0, .slice none 0 0] : List Value).toArray 37)
          replace Qt8 := Qt8.alloc (.cells ([.slice none 0 0, .slice none 0 0, .slice none 0 0, .slice none 0 0] : List Value).toArray 37)
          replace Ho2a := Lib.hid (Ho2a.out.kp (kp_alloc (o := (.cells ([.slice none 0 0, .slice none 0 0, .slice none 0 0, .slice none 0 0] : List Value).toArray 37)) (by (first | (simp; done) | (simp; omega) | omega)) kp_refl))
          replace Ho3 := Lib.hid (Ho3.out.kp (kp_alloc (o := (.cells ([.slice none 0 0, .slice none 0 0, .slice none 0 0, .slice none 0 0] : List Value).toArray 37)) (by (first | (simp; done) | (simp; omega) | omega)) kp_refl))
          have Qt9 := Bx.new v7 [.slice none 0 0, .slice none 0 0, .slice none 0 0, .slice none 0 0] 37
          replace HB := Lib.hid (HB.out.alloc HB.out.size (.cells ([.slice none 0 0, .slice none 0 0, .slice none 0 0, .slice none 0 0] : List Value).toArray 37))
          have hS2 := hS.alloc hS.size (.cells ([.slice none 0 0, .slice none 0 0, .slice none 0 0, .slice none 0 0] : List Value).toArray 37)
          refine hK.out _ _ (hS2) ?_
          try simp only [Act.put, List.setIfInBounds_toArray, List.set_cons_zero, List.set_cons_succ]
          clear hK K hS
          clear hS2
          refine restK_alone 3 rfl (by kernel_rfl) (by rfl) (fun hS K hK => ?_)
          go_wp2_with fail
          refine (KI.out p31 p32 p33 p34 p3k1 p3k2 p3k3 p3k4 _ (Ho3.out).two.1 (Ho3.out).two.2).mono ?_
          rintro e9 v8 ⟨p4a1, p4ak1, p4a2, p4ak2, p4a3, p4ak3, p4a4, p4ak4, rfl, hs, hb⟩
          have hz3 := hb.size
          simp only [World.size_alloc] at hz3
          replace Qt2 := Qt2.below hb
          replace Qt3 := Qt3.below hb
          replace Qt6 := Qt6.below hb
          replace Qt8 := Qt8.below hb
          replace Qt9 := Qt9.below hb
          replace FB := FB.below hb
          replace Ho2a := Lib.hid (Ho2a.out.kp (kp_of_below hb (by (first | (simp; done) | (simp; omega) | omega))))
          replace Ho3 := Lib.hid (Ho3.out.kp (kp_of_below hb (by (first | (simp; done) | (simp; omega) | omega))))
          replace HB := Lib.hid (bl_step hb HB.out.size HB.out)
          replace qt2 := Qt2.2
          replace pt2 := Qt2.1
          replace lt2 := Nat.le_of_lt Qt2.1
          replace qt3 := Qt3.2
          replace pt3 := Qt3.1
          replace lt3 := Nat.le_of_lt Qt3.1
          replace qt6 := Qt6.2
          replace pt6 := Qt6.1
          replace lt6 := Nat.le_of_lt Qt6.1
          replace qt8 := Qt8.2
          replace pt8 := Qt8.1
          replace lt8 := Nat.le_of_lt Qt8.1
          have qt9 := Qt9.2
          have pt9 := Qt9.1
          have lt9 := Nat.le_of_lt Qt9.1
          simp only [World.size_alloc] at hs
          have Ho4a : Hid (Sp twoO v8 (v7.heap.size + 1) (v8.heap.size) (X, Y) [.slice p4a1 X.1.length p4ak1, .slice p4a2 X.2.length p4ak2, .slice p4a3 Y.1.length p4ak3, .slice p4a4 Y.2.length p4ak4]) := hs
          clear hs
          have hS2 := bl_step hb hS.size hS
          refine hK.out _ _ hS2 ?_
          clear hK K hS
          clear hS2 hb
          refine restK_pure (v := ?_) 4 rfl (by kernel_rfl) (by kernel_rfl) (by kernel_rfl) (by kernel_rfl) (fun _ _ _ h => h) (by rfl) ?_ ?_
          rotate_left
          · intro w9; go_simp; try with_reducible rfl
          try simp only [Act.put, List.setIfInBounds_toArray, List.set_cons_zero, List.set_cons_succ]
          refine restK_pure (v := ?_) 5 rfl (by kernel_rfl) (by kernel_rfl) (by kernel_rfl) (by kernel_rfl) (fun _ _ _ h => h) (by rfl) ?_ ?_
          rotate_left
          · intro w9; go_simp; try with_reducible rfl
          try simp only [Act.put, List.setIfInBounds_toArray, List.set_cons_zero, List.set_cons_succ]
          refine restK_pure (v := ?_) 6 rfl (by kernel_rfl) (by kernel_rfl) (by kernel_rfl) (by kernel_rfl) (fun _ _ _ h => h) (by rfl) ?_ ?_
          rotate_left
          · intro w9; go_simp; try with_reducible rfl
          try simp only [Act.put, List.setIfInBounds_toArray, List.set_cons_zero, List.set_cons_succ]
          refine restK_break 8 rfl (by kernel_rfl) (by rfl) (by kernel_rfl) (fun hS K hK => ?_)
          have fB9 := FB.2
          have hz9 := Qt9.1
          (try simp only [World.size_alloc, World.size_drew] at hz9)
          go_wp2_with fail
          clear fB9
          replace Qt2 := Qt2.setOther ⟨v7.heap.size, 0, none⟩ (.slice p4a1 X.1.length p4ak1) (by (first | (simp; done) | (simp; omega) | omega))
          replace Qt3 := Qt3.setOther ⟨v7.heap.size, 0, none⟩ (.slice p4a1 X.1.length p4ak1) (by (first | (simp; done) | (simp; omega) | omega))
          replace Qt6 := Qt6.setOther ⟨v7.heap.size, 0, none⟩ (.slice p4a1 X.1.length p4ak1) (by (first | (simp; done) | (simp; omega) | omega))
          replace Qt8 := Qt8.setOther ⟨v7.heap.size, 0, none⟩ (.slice p4a1 X.1.length p4ak1) (by (first | (simp; done) | (simp; omega) | omega))
          replace Qt9 := Qt9.set 0 (.slice p4a1 X.1.length p4ak1) (by simp)
          replace Ho2a := Lib.hid (Ho2a.out.kp (kp_set (p := ⟨v7.heap.size, 0, none⟩) (u := .slice p4a1 X.1.length p4ak1) (by (first | (simp; done) | (simp; omega) | omega)) kp_refl))
          replace Ho3 := Lib.hid (Ho3.out.kp (kp_set (p := ⟨v7.heap.size, 0, none⟩) (u := .slice p4a1 X.1.length p4ak1) (by (first | (simp; done) | (simp; omega) | omega)) kp_refl))
          replace Ho4a := Lib.hid (Ho4a.out.kp (kp_set (p := ⟨v7.heap.size, 0, none⟩) (u := .slice p4a1 X.1.length p4ak1) (by (first | (simp; done) | (simp; omega) | omega)) kp_refl))
          replace HB := Lib.hid (HB.out.setCell (p := ⟨v7.heap.size, 0, none⟩) (by have := HB.out.size; (first | (simp; done) | (simp; omega) | omega)) (.slice p4a1 X.1.length p4ak1))
          replace Qt2 := Qt2.setOther ⟨v7.heap.size, 1, none⟩ (.slice p4a2 X.2.length p4ak2) (by (first | (simp; done) | (simp; omega) | omega))
          replace Qt3 := Qt3.setOther ⟨v7.heap.size, 1, none⟩ (.slice p4a2 X.2.length p4ak2) (by (first | (simp; done) | (simp; omega) | omega))
          replace Qt6 := Qt6.setOther ⟨v7.heap.size, 1, none⟩ (.slice p4a2 X.2.length p4ak2) (by (first | (simp; done) | (simp; omega) | omega))
          replace Qt8 := Qt8.setOther ⟨v7.heap.size, 1, none⟩ (.slice p4a2 X.2.length p4ak2) (by (first | (simp; done) | (simp; omega) | omega))
          replace Qt9 := Qt9.set 1 (.slice p4a2 X.2.length p4ak2) (by simp)
          replace Ho2a := Lib.hid (Ho2a.out.kp (kp_set (p := ⟨v7.heap.size, 1, none⟩) (u := .slice p4a2 X.2.length p4ak2) (by (first | (simp; done) | (simp; omega) | omega)) kp_refl))
          replace Ho3 := Lib.hid (Ho3.out.kp (kp_set (p := ⟨v7.heap.size, 1, none⟩) (u := .slice p4a2 X.2.length p4ak2) (by (first | (simp; done) | (simp; omega) | omega)) kp_refl))
          replace Ho4a := Lib.hid (Ho4a.out.kp (kp_set (p := ⟨v7.heap.size, 1, none⟩) (u := .slice p4a2 X.2.length p4ak2) (by (first | (simp; done) | (simp; omega) | omega)) kp_refl))
          replace HB := Lib.hid (HB.out.setCell (p := ⟨v7.heap.size, 1, none⟩) (by have := HB.out.size; (first | (simp; done) | (simp; omega) | omega)) (.slice p4a2 X.2.length p4ak2))
          replace Qt2 := Qt2.setOther ⟨v7.heap.size, 2, none⟩ (.slice p4a3 Y.1.length p4ak3) (by (first | (simp; done) | (simp; omega) | omega))
          replace Qt3 := Qt3.setOther ⟨v7.heap.size, 2, none⟩ (.slice p4a3 Y.1.length p4ak3) (by (first | (simp; done) | (simp; omega) | omega))
          replace Qt6 := Qt6.setOther ⟨v7.heap.size, 2, none⟩ (.slice p4a3 Y.1.length p4ak3) (by (first | (simp; done) | (simp; omega) | omega))
          replace Qt8 := Qt8.setOther ⟨v7.heap.size, 2, none⟩ (.slice p4a3 Y.1.length p4ak3) (by (first | (simp; done) | (simp; omega) | omega))
          replace Qt9 := Qt9.set 2 (.slice p4a3 Y.1.length p4ak3) (by simp)
          replace Ho2a := Lib.hid (Ho2a.out.kp (kp_set (p := ⟨v7.heap.size, 2, none⟩) (u := .slice p4a3 Y.1.length p4ak3) (by (first | (simp; done) | (simp; omega) | omega)) kp_refl))
          replace Ho3 := Lib.hid (Ho3.out.kp (kp_set (p := ⟨v7.heap.size, 2, none⟩) (u := .slice p4a3 Y.1.length p4ak3) (by (first | (simp; done) | (simp; omega) | omega)) kp_refl))
          replace Ho4a := Lib.hid (Ho4a.out.kp (kp_set (p := ⟨v7.heap.size, 2, none⟩) (u := .slice p4a3 Y.1.length p4ak3) (by (first | (simp; done) | (simp; omega) | omega)) kp_refl))
          replace HB := Lib.hid (HB.out.setCell (p := ⟨v7.heap.size, 2, none⟩) (by have := HB.out.size; (first | (simp; done) | (simp; omega) | omega)) (.slice p4a3 Y.1.length p4ak3))
          replace Qt2 := Qt2.setOther ⟨v7.heap.size, 3, none⟩ (.slice p4a4 Y.2.length p4ak4) (by (first | (simp; done) | (simp; omega) | omega))
          replace Qt3 := Qt3.setOther ⟨v7.heap.size, 3, none⟩ (.slice p4a4 Y.2.length p4ak4) (by (first | (simp; done) | (simp; omega) | omega))
          replace Qt6 := Qt6.setOther ⟨v7.heap.size, 3, none⟩ (.slice p4a4 Y.2.length p4ak4) (by (first | (simp; done) | (simp; omega) | omega))
          replace Qt8 := Qt8.setOther ⟨v7.heap.size, 3, none⟩ (.slice p4a4 Y.2.length p4ak4) (by (first | (simp; done) | (simp; omega) | omega))
          replace Qt9 := Qt9.set 3 (.slice p4a4 Y.2.length p4ak4) (by simp)
          replace Ho2a := Lib.hid (Ho2a.out.kp (kp_set (p := ⟨v7.heap.size, 3, none⟩) (u := .slice p4a4 Y.2.length p4ak4) (by (first | (simp; done) | (simp; omega) | omega)) kp_refl))
          replace Ho3 := Lib.hid (Ho3.out.kp (kp_set (p := ⟨v7.heap.size, 3, none⟩) (u := .slice p4a4 Y.2.length p4ak4) (by (first | (simp; done) | (simp; omega) | omega)) kp_refl))
          replace Ho4a := Lib.hid (Ho4a.out.kp (kp_set (p := ⟨v7.heap.size, 3, none⟩) (u := .slice p4a4 Y.2.length p4ak4) (by (first | (simp; done) | (simp; omega) | omega)) kp_refl))
          replace HB := Lib.hid (HB.out.setCell (p := ⟨v7.heap.size, 3, none⟩) (by have := HB.out.size; (first | (simp; done) | (simp; omega) | omega)) (.slice p4a4 Y.2.length p4ak4))
          simp only [List.set_cons_succ, List.set_cons_zero] at Qt9
          refine hK.out _ _ trivial ?_
          clear hK K hS
          refine rest_take (v := ?_) 9 rfl (by kernel_rfl) (by kernel_rfl) (by kernel_rfl) (fun _ _ _ h => h) (by rfl) ?_ ?_
          rotate_left
          · intro w9; go_simp; try with_reducible rfl
          try simp only [Act.put, List.setIfInBounds_toArray, List.set_cons_zero, List.set_cons_succ]
          refine rest_done (by kernel_rfl) ?_
          go_wp2_with fail
          go_meet
          exact ⟨v7.heap.size, p4a1, p4ak1, p4a2, p4ak2, p4a3, p4ak3, p4a4, p4ak4, v7.heap.size + 1, v8.heap.size, rfl, rfl, Qt9, Qt2, Qt3, Qt6, Qt8, Ho2a, Ho3, Ho4a, by (first | (simp; done) | (simp; omega) | omega), by (first | (simp; done) | (simp; omega) | omega), by (first | (simp; done) | (simp; omega) | omega), by (first | (simp; done) | (simp; omega) | omega), by (first | (simp; done) | (simp; omega) | omega), by have := hz9; (first | (simp; done) | (simp; omega) | omega), HB⟩
      · skip
        replace Qt2 := Qt2.drew
        replace Qt3 := Qt3.drew
        replace Qt6 := Qt6.drew
        replace Qt8 := Qt8.drew
        replace Ho2a := Lib.hid (Ho2a.out.kp (kp_drew kp_refl))
        replace Ho3 := Lib.hid (Ho3.out.kp (kp_drew kp_refl))
        replace HB := Lib.hid HB.out.drew
        go_wp2_with fail
        have FB := Fx.new ((v6.alloc (.cells ([.slice p31 d.1.length p3k1, .slice p32 d.2.length p3k2, .slice p33 e.1.length p3k3, .slice p34 e.2.length p3k4] : List Value).toArray 37))).drew [.slice none 0 0, .slice none 0 0, .slice none 0 0, .slice none 0 0] 37
        simp only [World.size_alloc, World.size_drew] at FB
        replace Qt2 := Qt2.alloc (.cells ([.slice none 0 0, .slice none 0 0, .slice none 0 0, .slice none 0 0] : List Value).toArray 37)
        replace Qt3 := Qt3.alloc (.cells ([.slice none 0 0, .slice none 0 0, .slice none 0 0, .slice none 0 0] : List Value).toArray 37)
        replace Qt6 := Qt6.alloc (.cells ([.slice none 0 0, .slice none 0 0, .slice none 0 0, .slice none 0 0] : List Value).toArray 37)
        replace Qt8 := Qt8.alloc (.cells ([.slice none 0 0, .slice none 0 0, .slice none 0 0, .slice none 0 0] : List Value).toArray 37)
        replace Ho2a := Lib.hid (Ho2a.out.kp (kp_alloc (o := (.cells ([.slice none 0 0, .slice none 0 0, .slice none 0 0, .slice none 0 0] : List Value).toArray 37)) (by (first | (simp; done) | (simp; omega) | omega)) kp_refl))
        replace Ho3 := Lib.hid (Ho3.out.kp (kp_alloc (o := (.cells ([.slice none 0 0, .slice none 0 0, .slice none 0 0, .slice none 0 0] : List Value).toArray 37)) (by (first | (simp; done) | (simp; omega) | omega)) kp_refl))
        have Qt9 := Bx.new ((v6.alloc (.cells ([.slice p31 d.1.length p3k1, .slice p32 d.2.length p3k2, .slice p33 e.1.length p3k3, .slice p34 e.2.length p3k4] : List Value).toArray 37))).drew [.slice none 0 0, .slice none 0 0, .slice none 0 0, .slice none 0 0] 37
        simp only [World.size_alloc, World.size_drew] at Qt9
        replace HB := Lib.hid (HB.out.alloc HB.out.size (.cells ([.slice none 0 0, .slice none 0 0, .slice none 0 0, .slice none 0 0] : List Value).toArray 37))
        have hS2 := hS.alloc hS.size (.cells ([.slice none 0 0, .slice none 0 0, .slice none 0 0, .slice none 0 0] : List Value).toArray 37)
        refine hK.out _ _ (hS2) ?_
        try simp only [Act.put, List.setIfInBounds_toArray, List.set_cons_zero, List.set_cons_succ]
        clear hK K hS
        clear hS2
        refine restK_alone 2 rfl (by kernel_rfl) (by rfl) (fun hS K hK => ?_)
        go_wp2_with fail
        refine (c_laws_toEntry i t c s k a b x y _).mono ?_
        rintro e9 v7 ⟨rfl, hb⟩
        have hz2 := hb.size
        simp only [World.size_alloc, World.size_drew] at hz2
        replace Qt2 := Qt2.below hb
        replace Qt3 := Qt3.below hb
        replace Qt6 := Qt6.below hb
        replace Qt8 := Qt8.below hb
        replace Qt9 := Qt9.below hb
        replace FB := FB.below hb
        replace Ho2a := Lib.hid (Ho2a.out.kp (kp_of_below hb (by (first | (simp; done) | (simp; omega) | omega))))
        replace Ho3 := Lib.hid (Ho3.out.kp (kp_of_below hb (by (first | (simp; done) | (simp; omega) | omega))))
        replace HB := Lib.hid (bl_step hb HB.out.size HB.out)
        replace qt2 := Qt2.2
        replace pt2 := Qt2.1
        replace lt2 := Nat.le_of_lt Qt2.1
        replace qt3 := Qt3.2
        replace pt3 := Qt3.1
        replace lt3 := Nat.le_of_lt Qt3.1
        replace qt6 := Qt6.2
        replace pt6 := Qt6.1
        replace lt6 := Nat.le_of_lt Qt6.1
        have qt8 := Qt8.2
        have pt8 := Qt8.1
        have lt8 := Nat.le_of_lt Qt8.1
        have qt9 := Qt9.2
        have pt9 := Qt9.1
        have lt9 := Nat.le_of_lt Qt9.1
        have hS2 := bl_step hb hS.size hS
        refine hK.out _ _ (hS2) ?_
        try simp only [Act.put, List.setIfInBounds_toArray, List.set_cons_zero, List.set_cons_succ]
        clear hK K hS
        clear hS2 hb
        refine restK_alone 3 rfl (by kernel_rfl) (by rfl) (fun hS K hK => ?_)
        go_wp2_with fail
        refine (KI.out p31 p32 p33 p34 p3k1 p3k2 p3k3 p3k4 _ (Ho3.out).two.1 (Ho3.out).two.2).mono ?_
        rintro e9 v8 ⟨p4a1, p4ak1, p4a2, p4ak2, p4a3, p4ak3, p4a4, p4ak4, rfl, hs, hb⟩
        have hz3 := hb.size
        replace Qt2 := Qt2.below hb
        replace Qt3 := Qt3.below hb
        replace Qt6 := Qt6.below hb
        replace Qt8 := Qt8.below hb
        replace Qt9 := Qt9.below hb
        replace FB := FB.below hb
        replace Ho2a := Lib.hid (Ho2a.out.kp (kp_of_below hb (by (first | (simp; done) | (simp; omega) | omega))))
        replace Ho3 := Lib.hid (Ho3.out.kp (kp_of_below hb (by (first | (simp; done) | (simp; omega) | omega))))
        replace HB := Lib.hid (bl_step hb HB.out.size HB.out)
        replace qt2 := Qt2.2
        replace pt2 := Qt2.1
        replace lt2 := Nat.le_of_lt Qt2.1
        replace qt3 := Qt3.2
        replace pt3 := Qt3.1
        replace lt3 := Nat.le_of_lt Qt3.1
        replace qt6 := Qt6.2
        replace pt6 := Qt6.1
        replace lt6 := Nat.le_of_lt Qt6.1
        replace qt8 := Qt8.2
        replace pt8 := Qt8.1
        replace lt8 := Nat.le_of_lt Qt8.1
        replace qt9 := Qt9.2
        replace pt9 := Qt9.1
        replace lt9 := Nat.le_of_lt Qt9.1
        dsimp only at hs
        have Ho4a : Hid (Sp twoO v8 (v7.heap.size) (v8.heap.size) (X, Y) [.slice p4a1 X.1.length p4ak1, .slice p4a2 X.2.length p4ak2, .slice p4a3 Y.1.length p4ak3, .slice p4a4 Y.2.length p4ak4]) := hs
        clear hs
        have hS2 := bl_step hb hS.size hS
        refine hK.out _ _ hS2 ?_
        clear hK K hS
        clear hS2 hb
        refine restK_pure (v := ?_) 4 rfl (by kernel_rfl) (by kernel_rfl) (by kernel_rfl) (by kernel_rfl) (fun _ _ _ h => h) (by rfl) ?_ ?_
        rotate_left
        · intro w9; go_simp; try with_reducible rfl
        try simp only [Act.put, List.setIfInBounds_toArray, List.set_cons_zero, List.set_cons_succ]
        refine restK_pure (v := ?_) 5 rfl (by kernel_rfl) (by kernel_rfl) (by kernel_rfl) (by kernel_rfl) (fun _ _ _ h => h) (by rfl) ?_ ?_
        rotate_left
        · intro w9; go_simp; try with_reducible rfl
        try simp only [Act.put, List.setIfInBounds_toArray, List.set_cons_zero, List.set_cons_succ]
        refine restK_pure (v := ?_) 6 rfl (by kernel_rfl) (by kernel_rfl) (by kernel_rfl) (by kernel_rfl) (fun _ _ _ h => h) (by rfl) ?_ ?_
        rotate_left
        · intro w9; go_simp; try with_reducible rfl
        try simp only [Act.put, List.setIfInBounds_toArray, List.set_cons_zero, List.set_cons_succ]
        refine restK_break 8 rfl (by kernel_rfl) (by rfl) (by kernel_rfl) (fun hS K hK => ?_)
        have fB9 := FB.2
        have hz9 := Qt9.1
        (try simp only [World.size_alloc, World.size_drew] at hz9)
        go_wp2_with fail
        clear fB9
        replace Qt2 := Qt2.setOther ⟨v6.heap.size + 1, 0, none⟩ (.slice p4a1 X.1.length p4ak1) (by (first | (simp; done) | (simp; omega) | omega))
        replace Qt3 := Qt3.setOther ⟨v6.heap.size + 1, 0, none⟩ (.slice p4a1 X.1.length p4ak1) (by (first | (simp; done) | (simp; omega) | omega))
        replace Qt6 := Qt6.setOther ⟨v6.heap.size + 1, 0, none⟩ (.slice p4a1 X.1.length p4ak1) (by (first | (simp; done) | (simp; omega) | omega))
        replace Qt8 := Qt8.setOther ⟨v6.heap.size + 1, 0, none⟩ (.slice p4a1 X.1.length p4ak1) (by (first | (simp; done) | (simp; omega) | omega))
        replace Qt9 := Qt9.set 0 (.slice p4a1 X.1.length p4ak1) (by simp)
        replace Ho2a := Lib.hid (Ho2a.out.kp (kp_set (p := ⟨v6.heap.size + 1, 0, none⟩) (u := .slice p4a1 X.1.length p4ak1) (by (first | (simp; done) | (simp; omega) | omega)) kp_refl))
        replace Ho3 := Lib.hid (Ho3.out.kp (kp_set (p := ⟨v6.heap.size + 1, 0, none⟩) (u := .slice p4a1 X.1.length p4ak1) (by (first | (simp; done) | (simp; omega) | omega)) kp_refl))
        replace Ho4a := Lib.hid (Ho4a.out.kp (kp_set (p := ⟨v6.heap.size + 1, 0, none⟩) (u := .slice p4a1 X.1.length p4ak1) (by (first | (simp; done) | (simp; omega) | omega)) kp_refl))
        replace HB := Lib.hid (HB.out.setCell (p := ⟨v6.heap.size + 1, 0, none⟩) (by have := HB.out.size; (first | (simp; done) | (simp; omega) | omega)) (.slice p4a1 X.1.length p4ak1))
        replace Qt2 := Qt2.setOther ⟨v6.heap.size + 1, 1, none⟩ (.slice p4a2 X.2.length p4ak2) (by (first | (simp; done) | (simp; omega) | omega))
        replace Qt3 := Qt3.setOther ⟨v6.heap.size + 1, 1, none⟩ (.slice p4a2 X.2.length p4ak2) (by (first | (simp; done) | (simp; omega) | omega))
        replace Qt6 := Qt6.setOther ⟨v6.heap.size + 1, 1, none⟩ (.slice p4a2 X.2.length p4ak2) (by (first | (simp; done) | (simp; omega) | omega))
        replace Qt8 := Qt8.setOther ⟨v6.heap.size + 1, 1, none⟩ (.slice p4a2 X.2.length p4ak2) (by (first | (simp; done) | (simp; omega) | omega))
        replace Qt9 := Qt9.set 1 (.slice p4a2 X.2.length p4ak2) (by simp)
        replace Ho2a := Lib.hid (Ho2a.out.kp (kp_set (p := ⟨v6.heap.size + 1, 1, none⟩) (u := .slice p4a2 X.2.length p4ak2) (by (first | (simp; done) | (simp; omega) | omega)) kp_refl))
        replace Ho3 := Lib.hid (Ho3.out.kp (kp_set (p := ⟨v6.heap.size + 1, 1, none⟩) (u := .slice p4a2 X.2.length p4ak2) (by (first | (simp; done) | (simp; omega) | omega)) kp_refl))
        replace Ho4a := Lib.hid (Ho4a.out.kp (kp_set (p := ⟨v6.heap.size + 1, 1, none⟩) (u := .slice p4a2 X.2.length p4ak2) (by (first | (simp; done) | (simp; omega) | omega)) kp_refl))
        replace HB := Lib.hid (HB.out.setCell (p := ⟨v6.heap.size + 1, 1, none⟩) (by have := HB.out.size; (first | (simp; done) | (simp; omega) | omega)) (.slice p4a2 X.2.length p4ak2))
        replace Qt2 := Qt2.setOther ⟨v6.heap.size + 1, 2, none⟩ (.slice p4a3 Y.1.length p4ak3) (by (first | (simp; done) | (simp; omega) | omega))
        replace Qt3 := Qt3.setOther ⟨v6.heap.size + 1, 2, none⟩ (.slice p4a3 Y.1.length p4ak3) (by (first | (simp; done) | (simp; omega) | omega))
        replace Qt6 := Qt6.setOther ⟨v6.heap.size + 1, 2, none⟩ (.slice p4a3 Y.1.length p4ak3) (by (first | (simp; done) | (simp; omega) | omega))
        replace Qt8 := Qt8.setOther ⟨v6.heap.size + 1, 2, none⟩ (.slice p4a3 Y.1.length p4ak3) (by (first | (simp; done) | (simp; omega) | omega))
        replace Qt9 := Qt9.set 2 (.slice p4a3 Y.1.length p4ak3) (by simp)
        replace Ho2a := Lib.hid (Ho2a.out.kp (kp_set (p := ⟨v6.heap.size + 1, 2, none⟩) (u := .slice p4a3 Y.1.length p4ak3) (by (first | (simp; done) | (simp; omega) | omega)) kp_refl))
        replace Ho3 := Lib.hid (Ho3.out.kp (kp_set (p := ⟨v6.heap.size + 1, 2, none⟩) (u := .slice p4a3 Y.1.length p4ak3) (by (first | (simp; done) | (simp; omega) | omega)) kp_refl))
        replace Ho4a := Lib.hid (Ho4a.out.kp (kp_set (p := ⟨v6.heap.size + 1, 2, none⟩) (u := .slice p4a3 Y.1.length p4ak3) (by (first | (simp; done) | (simp; omega) | omega)) kp_refl))
        replace HB := Lib.hid (HB.out.setCell (p := ⟨v6.heap.size + 1, 2, none⟩) (by have := HB.out.size; (first | (simp; done) | (simp; omega) | omega)) (.slice p4a3 Y.1.length p4ak3))
        replace Qt2 := Qt2.setOther ⟨v6.heap.size + 1, 3, none⟩ (.slice p4a4 Y.2.length p4ak4) (by (first | (simp; done) | (simp; omega) | omega))
        replace Qt3 := Qt3.setOther ⟨v6.heap.size + 1, 3, none⟩ (.slice p4a4 Y.2.length p4ak4) (by (first | (simp; done) | (simp; omega) | omega))
        replace Qt6 := Qt6.setOther ⟨v6.heap.size + 1, 3, none⟩ (.slice p4a4 Y.2.length p4ak4) (by (first | (simp; done) | (simp; omega) | omega))
        replace Qt8 := Qt8.setOther ⟨v6.heap.size + 1, 3, none⟩ (.slice p4a4 Y.2.length p4ak4) (by (first | (simp; done) | (simp; omega) | omega))
        replace Qt9 := Qt9.set 3 (.slice p4a4 Y.2.length p4ak4) (by simp)
        replace Ho2a := Lib.hid (Ho2a.out.kp (kp_set (p := ⟨v6.heap.size + 1, 3, none⟩) (u := .slice p4a4 Y.2.length p4ak4) (by (first | (simp; done) | (simp; omega) | omega)) kp_refl))
        replace Ho3 := Lib.hid (Ho3.out.kp (kp_set (p := ⟨v6.heap.size + 1, 3, none⟩) (u := .slice p4a4 Y.2.length p4ak4) (by (first | (simp; done) | (simp; omega) | omega)) kp_refl))
        replace Ho4a := Lib.hid (Ho4a.out.kp (kp_set (p := ⟨v6.heap.size + 1, 3, none⟩) (u := .slice p4a4 Y.2.length p4ak4) (by (first | (simp; done) | (simp; omega) | omega)) kp_refl))
        replace HB := Lib.hid (HB.out.setCell (p := ⟨v6.heap.size + 1, 3, none⟩) (by have := HB.out.size; (first | (simp; done) | (simp; omega) | omega)) (.slice p4a4 Y.2.length p4ak4))
        simp only [List.set_cons_succ, List.set_cons_zero] at Qt9
        refine hK.out _ _ trivial ?_
        clear hK K hS
        refine rest_take (v := ?_) 9 rfl (by kernel_rfl) (by kernel_rfl) (by kernel_rfl) (fun _ _ _ h => h) (by rfl) ?_ ?_
        rotate_left
        · intro w9; go_simp; try with_reducible rfl
        try simp only [Act.put, List.setIfInBounds_toArray, List.set_cons_zero, List.set_cons_succ]
        refine rest_done (by kernel_rfl) ?_
        go_wp2_with fail
        go_meet
        exact ⟨v6.heap.size + 1, p4a1, p4ak1, p4a2, p4ak2, p4a3, p4ak3, p4a4, p4ak4, v7.heap.size, v8.heap.size, rfl, rfl, Qt9, Qt2, Qt3, Qt6, Qt8, Ho2a, Ho3, Ho4a, by (first | (simp; done) | (simp; omega) | omega), by (first | (simp; done) | (simp; omega) | omega), by (first | (simp; done) | (simp; omega) | omega), by (first | (simp; done) | (simp; omega) | omega), by (first | (simp; done) | (simp; omega) | omega), by have := hz9; (first | (simp; done) | (simp; omega) | omega), HB⟩
    clear Qt2 qt2 pt2 lt2 Qt3 qt3 pt3 lt3 Qt6 qt6 pt6 lt6 Qt8 Ho2a Ho3 HB
    obtain ⟨B9, p4a1, p4ak1, p4a2, p4ak2, p4a3, p4ak3, p4a4, p4ak4, loo4a, hio4a, rfl, rfl, Qt9, Qt2, Qt3, Qt6, Qt8, Ho2a, Ho3, Ho4a, hy1, hlo4a, hmo4a, hho4a, hdo4a, hw1, HB⟩ := hcut
    obtain ⟨v9, HV⟩ : ∃ V, Hid (V = wc) := ⟨wc, Lib.hid rfl⟩
    have eV := HV.out
    subst eV
    clear HV
    have hxt9 := Qt9.1
    have qt2 := Qt2.2
    have pt2 := Qt2.1
    have lt2 := Nat.le_of_lt Qt2.1
    have qt3 := Qt3.2
    have pt3 := Qt3.1
    have lt3 := Nat.le_of_lt Qt3.1
    have qt6 := Qt6.2
    have pt6 := Qt6.1
    have lt6 := Nat.le_of_lt Qt6.1
    have qt8 := Qt8.2
    have pt8 := Qt8.1
    have lt8 := Nat.le_of_lt Qt8.1
    have qt9 := Qt9.2
    have pt9 := Qt9.1
    have lt9 := Nat.le_of_lt Qt9.1
    go_wp2_with fail
    refine (c_eqTwo_o Ho4a.out Ho2a.out).mono ?_
    rintro e9 v10 ⟨rfl, hb⟩
    have hz2 := hb.size
    replace Qt2 := Qt2.below hb
    replace Qt3 := Qt3.below hb
    replace Qt6 := Qt6.below hb
    replace Qt8 := Qt8.below hb
    replace Qt9 := Qt9.below hb
    replace Ho2a := Lib.hid (Ho2a.out.kp (kp_of_below hb (by (first | (simp; done) | (simp; omega) | omega))))
    replace Ho3 := Lib.hid (Ho3.out.kp (kp_of_below hb (by (first | (simp; done) | (simp; omega) | omega))))
    replace Ho4a := Lib.hid (Ho4a.out.kp (kp_of_below hb (by (first | (simp; done) | (simp; omega) | omega))))
    replace HB := Lib.hid (bl_step hb HB.out.size HB.out)
    replace qt2 := Qt2.2
    replace pt2 := Qt2.1
    replace lt2 := Nat.le_of_lt Qt2.1
    replace qt3 := Qt3.2
    replace pt3 := Qt3.1
    replace lt3 := Nat.le_of_lt Qt3.1
    replace qt6 := Qt6.2
    replace pt6 := Qt6.1
    replace lt6 := Nat.le_of_lt Qt6.1
    replace qt8 := Qt8.2
    replace pt8 := Qt8.1
    replace lt8 := Nat.le_of_lt Qt8.1
    replace qt9 := Qt9.2
    replace pt9 := Qt9.1
    replace lt9 := Nat.le_of_lt Qt9.1
    clear hb
    go_wp2_with fail
    refine restK_begin [] (by kernel_rfl) ?_
    refine restK_take (v := ?_) 0 rfl (by kernel_rfl) (by kernel_rfl) (by kernel_rfl) (by kernel_rfl) (by kernel_rfl) (by kernel_rfl) (fun _ _ _ h => h) (by rfl) ?_ ?_
    rotate_left
    · intro w9 h9; try dsimp only at h9
      obtain ⟨x9, rfl⟩ := later_of h9
      go_simp; try with_reducible rfl
    try simp only [Act.put, List.setIfInBounds_toArray, List.set_cons_zero, List.set_cons_succ]
    refine restK_take (v := ?_) 1 rfl (by kernel_rfl) (by kernel_rfl) (by kernel_rfl) (by kernel_rfl) (by kernel_rfl) (by kernel_rfl) (fun _ _ _ h => h) (by rfl) ?_ ?_
    rotate_left
    · intro w9 h9; try dsimp only at h9
      obtain ⟨x9, rfl⟩ := later_of h9
      go_simp; try with_reducible rfl
    try simp only [Act.put, List.setIfInBounds_toArray, List.set_cons_zero, List.set_cons_succ]
    refine restK_alone 2 rfl (by kernel_rfl) (by rfl) (fun hS K hK => ?_)
    replace Qt2 := Qt2.drew
    replace Qt3 := Qt3.drew
    replace Qt6 := Qt6.drew
    replace Qt8 := Qt8.drew
    replace Qt9 := Qt9.drew
    replace Ho2a := Lib.hid (Ho2a.out.kp (kp_drew kp_refl))
    replace Ho3 := Lib.hid (Ho3.out.kp (kp_drew kp_refl))
    replace Ho4a := Lib.hid (Ho4a.out.kp (kp_drew kp_refl))
    replace HB := Lib.hid HB.out.drew
    go_wp2_with fail
    refine (c_toTwo a1 a2 a3 a4 ak1 ak2 ak3 ak4 d e _ (HD.out _ HB.out) (HE.out _ HB.out) HSd.out.1 HSe.out.1).mono ?_
    rintro e9 v11 ⟨p51, p5k1, p52, p5k2, p53, p5k3, p54, p5k4, rfl, hs, hb⟩
    have hz3 := hb.size
    simp only [World.size_drew] at hz3
    replace Qt2 := Qt2.below hb
    replace Qt3 := Qt3.below hb
    replace Qt6 := Qt6.below hb
    replace Qt8 := Qt8.below hb
    replace Qt9 := Qt9.below hb
    replace Ho2a := Lib.hid (Ho2a.out.kp (kp_of_below hb (by (first | (simp; done) | (simp; omega) | omega))))
    replace Ho3 := Lib.hid (Ho3.out.kp (kp_of_below hb (by (first | (simp; done) | (simp; omega) | omega))))
    replace Ho4a := Lib.hid (Ho4a.out.kp (kp_of_below hb (by (first | (simp; done) | (simp; omega) | omega))))
    replace HB := Lib.hid (bl_step hb HB.out.size HB.out)
    replace qt2 := Qt2.2
    replace pt2 := Qt2.1
    replace lt2 := Nat.le_of_lt Qt2.1
    replace qt3 := Qt3.2
    replace pt3 := Qt3.1
    replace lt3 := Nat.le_of_lt Qt3.1
    replace qt6 := Qt6.2
    replace pt6 := Qt6.1
    replace lt6 := Nat.le_of_lt Qt6.1
    replace qt8 := Qt8.2
    replace pt8 := Qt8.1
    replace lt8 := Nat.le_of_lt Qt8.1
    replace qt9 := Qt9.2
    replace pt9 := Qt9.1
    replace lt9 := Nat.le_of_lt Qt9.1
    simp only [World.size_drew] at hs
    have Ho5 : Hid (Sp twoO v11 (v10.heap.size) (v11.heap.size) (d, e) [.slice p51 d.1.length p5k1, .slice p52 d.2.length p5k2, .slice p53 e.1.length p5k3, .slice p54 e.2.length p5k4]) := hs
    clear hs
    have hS2 := bl_step hb hS.size hS
    refine hK.out _ _ (hS2) ?_
    try simp only [Act.put, List.setIfInBounds_toArray, List.set_cons_zero, List.set_cons_succ]
    clear hK K hS
    clear hS2 hb
    refine restK_alone 3 rfl (by kernel_rfl) (by rfl) (fun hS K hK => ?_)
    go_wp2_with fail
    refine (c_eqTwo_o Ho3.out Ho5.out).mono ?_
    rintro e9 v12 ⟨rfl, hb⟩
    have hz4 := hb.size
    replace Qt2 := Qt2.below hb
    replace Qt3 := Qt3.below hb
    replace Qt6 := Qt6.below hb
    replace Qt8 := Qt8.below hb
    replace Qt9 := Qt9.below hb
    replace Ho2a := Lib.hid (Ho2a.out.kp (kp_of_below hb (by (first | (simp; done) | (simp; omega) | omega))))
    replace Ho3 := Lib.hid (Ho3.out.kp (kp_of_below hb (by (first | (simp; done) | (simp; omega) | omega))))
    replace Ho4a := Lib.hid (Ho4a.out.kp (kp_of_below hb (by (first | (simp; done) | (simp; omega) | omega))))
    replace Ho5 := Lib.hid (Ho5.out.kp (kp_of_below hb (by (first | (simp; done) | (simp; omega) | omega))))
    replace HB := Lib.hid (bl_step hb HB.out.size HB.out)
    replace qt2 := Qt2.2
    replace pt2 := Qt2.1
    replace lt2 := Nat.le_of_lt Qt2.1
    replace qt3 := Qt3.2
    replace pt3 := Qt3.1
    replace lt3 := Nat.le_of_lt Qt3.1
    replace qt6 := Qt6.2
    replace pt6 := Qt6.1
    replace lt6 := Nat.le_of_lt Qt6.1
    replace qt8 := Qt8.2
    replace pt8 := Qt8.1
    replace lt8 := Nat.le_of_lt Qt8.1
    replace qt9 := Qt9.2
    replace pt9 := Qt9.1
    replace lt9 := Nat.le_of_lt Qt9.1
    have hS2 := bl_step hb hS.size hS
    refine hK.out _ _ (hS2) ?_
    try simp only [Act.put, List.setIfInBounds_toArray, List.set_cons_zero, List.set_cons_succ]
    clear hK K hS
    clear hS2 hb
    refine restK_pure (v := ?_) 4 rfl (by kernel_rfl) (by kernel_rfl) (by kernel_rfl) (by kernel_rfl) (fun _ _ _ h => h) (by rfl) ?_ ?_
    rotate_left
    · intro w9; go_simp; try with_reducible rfl
    try simp only [Act.put, List.setIfInBounds_toArray, List.set_cons_zero, List.set_cons_succ]
    refine restK_done (by kernel_rfl) (fun hS => ?_)
    go_wp2_with fail
    refine (c_markTwo_o (k := 1) Ho3.out (by omega) (by have := hN_de; rw [Hn_de.out]; omega) ⟨HSd.out.1, HSe.out.1⟩).mono ?_
    rw [Hn_de.out]
    rintro e9 v13 ⟨rfl, hs, ho⟩
    have hz5 := ho.size
    have hb9 := HB.out.size
    replace Qt2 := Qt2.out ho (by omega)
    replace Qt3 := Qt3.out ho (by omega)
    replace Qt6 := Qt6.out ho (by omega)
    replace Qt8 := Qt8.out ho (by omega)
    replace Qt9 := Qt9.out ho (by omega)
    replace Ho2a := Lib.hid (Ho2a.out.kp (ho.kp (by omega) (by (first | (simp; done) | (simp; omega) | omega))))
    replace Ho4a := Lib.hid (Ho4a.out.kp (ho.kp (by omega) (by (first | (simp; done) | (simp; omega) | omega))))
    replace Ho5 := Lib.hid (Ho5.out.kp (ho.kp (by omega) (by (first | (simp; done) | (simp; omega) | omega))))
    replace HB := Lib.hid (HB.out.trans (ho.below (by omega) (by (first | (simp; done) | (simp; omega) | omega))))
    clear hb9
    replace qt2 := Qt2.2
    replace pt2 := Qt2.1
    replace lt2 := Nat.le_of_lt Qt2.1
    replace qt3 := Qt3.2
    replace pt3 := Qt3.1
    replace lt3 := Nat.le_of_lt Qt3.1
    replace qt6 := Qt6.2
    replace pt6 := Qt6.1
    replace lt6 := Nat.le_of_lt Qt6.1
    replace qt8 := Qt8.2
    replace pt8 := Qt8.1
    replace lt8 := Nat.le_of_lt Qt8.1
    replace qt9 := Qt9.2
    replace pt9 := Qt9.1
    replace lt9 := Nat.le_of_lt Qt9.1
    clear Ho3
    have Ho3 : Hid (Sp twoO v13 (v5.heap.size) (v6.heap.size) (mkDisk (1) d, mkDisk (1 + mkSum d) e) [.slice p31 d.1.length p3k1, .slice p32 d.2.length p3k2, .slice p33 e.1.length p3k3, .slice p34 e.2.length p3k4]) := hs
    clear hs
    clear ho
    go_wp2_with fail
    refine (c_eqTwo_o Ho4a.out Ho2a.out).mono ?_
    rintro e9 v14 ⟨rfl, hb⟩
    have hz6 := hb.size
    replace Qt2 := Qt2.below hb
    replace Qt3 := Qt3.below hb
    replace Qt6 := Qt6.below hb
    replace Qt8 := Qt8.below hb
    replace Qt9 := Qt9.below hb
    replace Ho2a := Lib.hid (Ho2a.out.kp (kp_of_below hb (by (first | (simp; done) | (simp; omega) | omega))))
    replace Ho3 := Lib.hid (Ho3.out.kp (kp_of_below hb (by (first | (simp; done) | (simp; omega) | omega))))
    replace Ho4a := Lib.hid (Ho4a.out.kp (kp_of_below hb (by (first | (simp; done) | (simp; omega) | omega))))
    replace Ho5 := Lib.hid (Ho5.out.kp (kp_of_below hb (by (first | (simp; done) | (simp; omega) | omega))))
    replace HB := Lib.hid (bl_step hb HB.out.size HB.out)
    replace qt2 := Qt2.2
    replace pt2 := Qt2.1
    replace lt2 := Nat.le_of_lt Qt2.1
    replace qt3 := Qt3.2
    replace pt3 := Qt3.1
    replace lt3 := Nat.le_of_lt Qt3.1
    replace qt6 := Qt6.2
    replace pt6 := Qt6.1
    replace lt6 := Nat.le_of_lt Qt6.1
    replace qt8 := Qt8.2
    replace pt8 := Qt8.1
    replace lt8 := Nat.le_of_lt Qt8.1
    replace qt9 := Qt9.2
    replace pt9 := Qt9.1
    replace lt9 := Nat.le_of_lt Qt9.1
    clear hb
    go_wp2_with fail
    refine (c_markTwo_o (k := 1) Ho4a.out (by omega) (by have := hN_XY; rw [Hn_XY.out]; omega) ⟨HSX.out.1, HSY.out.1⟩).mono ?_
    rw [Hn_XY.out]
    rintro e9 v15 ⟨rfl, hs, ho⟩
    have hz7 := ho.size
    have hb9 := HB.out.size
    replace Qt2 := Qt2.out ho (by omega)
    replace Qt3 := Qt3.out ho (by omega)
    replace Qt6 := Qt6.out ho (by omega)
    replace Qt8 := Qt8.out ho (by omega)
    replace Qt9 := Qt9.out ho (by omega)
    replace Ho2a := Lib.hid (Ho2a.out.kp (ho.kp (by omega) (by (first | (simp; done) | (simp; omega) | omega))))
    replace Ho3 := Lib.hid (Ho3.out.kp (ho.kp (by omega) (by (first | (simp; done) | (simp; omega) | omega))))
    replace Ho5 := Lib.hid (Ho5.out.kp (ho.kp (by omega) (by (first | (simp; done) | (simp; omega) | omega))))
    replace HB := Lib.hid (HB.out.trans (ho.below (by omega) (by (first | (simp; done) | (simp; omega) | omega))))
    clear hb9
    replace qt2 := Qt2.2
    replace pt2 := Qt2.1
    replace lt2 := Nat.le_of_lt Qt2.1
    replace qt3 := Qt3.2
    replace pt3 := Qt3.1
    replace lt3 := Nat.le_of_lt Qt3.1
    replace qt6 := Qt6.2
    replace pt6 := Qt6.1
    replace lt6 := Nat.le_of_lt Qt6.1
    replace qt8 := Qt8.2
    replace pt8 := Qt8.1
    replace lt8 := Nat.le_of_lt Qt8.1
    replace qt9 := Qt9.2
    replace pt9 := Qt9.1
    replace lt9 := Nat.le_of_lt Qt9.1
    clear Ho4a
    have Ho4a : Hid (Sp twoO v15 (loo4a) (hio4a) (mkDisk (1) X, mkDisk (1 + mkSum X) Y) [.slice p4a1 X.1.length p4ak1, .slice p4a2 X.2.length p4ak2, .slice p4a3 Y.1.length p4ak3, .slice p4a4 Y.2.length p4ak4]) := hs
    clear hs
    clear ho
    go_wp2_with fail
    refine (c_heldTwo_o (k := 1) Ho4a.out (by omega) (by have := hN_XY; rw [Hn_XY.out]; omega) ⟨HSX.out.1, HSY.out.1⟩).mono ?_
    rw [Hn_XY.out]
    rintro e9 v16 ⟨rfl, hb⟩
    have hz8 := hb.size
    replace Qt2 := Qt2.below hb
    replace Qt3 := Qt3.below hb
    replace Qt6 := Qt6.below hb
    replace Qt8 := Qt8.below hb
    replace Qt9 := Qt9.below hb
    replace Ho2a := Lib.hid (Ho2a.out.kp (kp_of_below hb (by (first | (simp; done) | (simp; omega) | omega))))
    replace Ho3 := Lib.hid (Ho3.out.kp (kp_of_below hb (by (first | (simp; done) | (simp; omega) | omega))))
    replace Ho4a := Lib.hid (Ho4a.out.kp (kp_of_below hb (by (first | (simp; done) | (simp; omega) | omega))))
    replace Ho5 := Lib.hid (Ho5.out.kp (kp_of_below hb (by (first | (simp; done) | (simp; omega) | omega))))
    replace HB := Lib.hid (bl_step hb HB.out.size HB.out)
    replace qt2 := Qt2.2
    replace pt2 := Qt2.1
    replace lt2 := Nat.le_of_lt Qt2.1
    replace qt3 := Qt3.2
    replace pt3 := Qt3.1
    replace lt3 := Nat.le_of_lt Qt3.1
    replace qt6 := Qt6.2
    replace pt6 := Qt6.1
    replace lt6 := Nat.le_of_lt Qt6.1
    replace qt8 := Qt8.2
    replace pt8 := Qt8.1
    replace lt8 := Nat.le_of_lt Qt8.1
    replace qt9 := Qt9.2
    replace pt9 := Qt9.1
    replace lt9 := Nat.le_of_lt Qt9.1
    clear hb
    go_upto_region 24 with fail
    go_cut [14, 15] (fun s14 s15 wx => ∃ (B14 : Nat) (p7a1 : Option Addr) (p7ak1 : Nat) (p7a2 : Option Addr) (p7ak2 : Nat) (p7a3 : Option Addr) (p7ak3 : Nat) (p7a4 : Option Addr) (p7ak4 : Nat) (loo7a hio7a : Nat), s14 = .pointer (some ⟨B14, 0, none⟩) ∧ s15 = .bool f ∧ Bx wx B14 [.slice p7a1 X.1.length p7ak1, .slice p7a2 X.2.length p7ak2, .slice p7a3 Y.1.length p7ak3, .slice p7a4 Y.2.length p7ak4] ∧ Bx wx (w.heap.size) [.slice a1 d.1.length ak1, .slice a2 d.2.length ak2, .slice a3 e.1.length ak3, .slice a4 e.2.length ak4] ∧ Bx wx (w.heap.size + 1) [.int .i64 i, .int .i64 t, .int .i64 c, .int .i64 s, .int .i64 k, .int .i64 a, .int .i64 b, .int .i64 x, .int .i64 y] ∧ Bx wx (B6) [.slice p2a1 X.1.length p2ak1, .slice p2a2 X.2.length p2ak2, .slice p2a3 Y.1.length p2ak3, .slice p2a4 Y.2.length p2ak4] ∧ Bx wx (v6.heap.size) [.slice p31 d.1.length p3k1, .slice p32 d.2.length p3k2, .slice p33 e.1.length p3k3, .slice p34 e.2.length p3k4] ∧ Bx wx (B9) [.slice p4a1 X.1.length p4ak1, .slice p4a2 X.2.length p4ak2, .slice p4a3 Y.1.length p4ak3, .slice p4a4 Y.2.length p4ak4] ∧ Hid (Sp twoO wx (loo2a) (hio2a) (X, Y) [.slice p2a1 X.1.length p2ak1, .slice p2a2 X.2.length p2ak2, .slice p2a3 Y.1.length p2ak3, .slice p2a4 Y.2.length p2ak4]) ∧ Hid (Sp twoO wx (v5.heap.size) (v6.heap.size) (mkDisk (1) d, mkDisk (1 + mkSum d) e) [.slice p31 d.1.length p3k1, .slice p32 d.2.length p3k2, .slice p33 e.1.length p3k3, .slice p34 e.2.length p3k4]) ∧ Hid (Sp twoO wx (loo4a) (hio4a) (mkDisk (1) X, mkDisk (1 + mkSum X) Y) [.slice p4a1 X.1.length p4ak1, .slice p4a2 X.2.length p4ak2, .slice p4a3 Y.1.length p4ak3, .slice p4a4 Y.2.length p4ak4]) ∧ Hid (Sp twoO wx (v10.heap.size) (v11.heap.size) (d, e) [.slice p51 d.1.length p5k1, .slice p52 d.2.length p5k2, .slice p53 e.1.length p5k3, .slice p54 e.2.length p5k4]) ∧ Hid (Sp twoO wx (loo7a) (hio7a) (X, Y) [.slice p7a1 X.1.length p7ak1, .slice p7a2 X.2.length p7ak2, .slice p7a3 Y.1.length p7ak3, .slice p7a4 Y.2.length p7ak4]) ∧ v16.heap.size ≤ B14 ∧ v16.heap.size ≤ loo7a ∧ loo7a ≤ hio7a ∧ hio7a ≤ wx.heap.size ∧ (B14 < loo7a ∨ hio7a ≤ B14) ∧ v16.heap.size ≤ wx.heap.size ∧ Hid (Below w.heap.size w wx))
    case first =>
      refine restK_begin [9] (by kernel_rfl) ?_
      refine restK_take (v := ?_) 0 rfl (by kernel_rfl) (by kernel_rfl) (by kernel_rfl) (by kernel_rfl) (by kernel_rfl) (by kernel_rfl) (fun _ _ _ h => h) (by rfl) ?_ ?_
      rotate_left
      · intro w9 h9; try dsimp only at h9
        obtain ⟨x9, rfl⟩ := later_of h9
        go_simp; try with_reducible rfl
      try simp only [Act.put, List.setIfInBounds_toArray, List.set_cons_zero, List.set_cons_succ]
      refine restK_take (v := ?_) 2 rfl (by kernel_rfl) (by kernel_rfl) (by kernel_rfl) (by kernel_rfl) (by kernel_rfl) (by kernel_rfl) (fun _ _ _ h => h) (by rfl) ?_ ?_
      rotate_left
      · intro w9 h9; try dsimp only at h9
        obtain ⟨x9, rfl⟩ := later_of h9
        go_simp; try with_reducible rfl
      try simp only [Act.put, List.setIfInBounds_toArray, List.set_cons_zero, List.set_cons_succ]
      refine restK_two 1 8 rfl rfl (by kernel_rfl) (by rfl) (by rfl) (fun hS K hK => ?_) (fun hS K hK => ?_)
      · skip
        replace Qt2 := Qt2.drew
        replace Qt3 := Qt3.drew
        replace Qt6 := Qt6.drew
        replace Qt8 := Qt8.drew
        replace Qt9 := Qt9.drew
        replace Ho2a := Lib.hid (Ho2a.out.kp (kp_drew kp_refl))
        replace Ho3 := Lib.hid (Ho3.out.kp (kp_drew kp_refl))
        replace Ho4a := Lib.hid (Ho4a.out.kp (kp_drew kp_refl))
        replace Ho5 := Lib.hid (Ho5.out.kp (kp_drew kp_refl))
        replace HB := Lib.hid HB.out.drew
        go_wp2_with fail
        refine (c_toTwo a1 a2 a3 a4 ak1 ak2 ak3 ak4 d e _ (HD.out _ HB.out) (HE.out _ HB.out) HSd.out.1 HSe.out.1).mono ?_
        rintro e9 v17 ⟨p61, p6k1, p62, p6k2, p63, p6k3, p64, p6k4, rfl, hs, hb⟩
        have hz9 := hb.size
        simp only [World.size_drew] at hz9
        replace Qt2 := Qt2.below hb
        replace Qt3 := Qt3.below hb
        replace Qt6 := Qt6.below hb
        replace Qt8 := Qt8.below hb
        replace Qt9 := Qt9.below hb
        replace Ho2a := Lib.hid (Ho2a.out.kp (kp_of_below hb (by (first | (simp; done) | (simp; omega) | omega))))
        replace Ho3 := Lib.hid (Ho3.out.kp (kp_of_below hb (by (first | (simp; done) | (simp; omega) | omega))))
        replace Ho4a := Lib.hid (Ho4a.out.kp (kp_of_below hb (by (first | (simp; done) | (simp; omega) | omega))))
        replace Ho5 := Lib.hid (Ho5.out.kp (kp_of_below hb (by (first | (simp; done) | (simp; omega) | omega))))
        replace HB := Lib.hid (bl_step hb HB.out.size HB.out)
        replace qt2 := Qt2.2
        replace pt2 := Qt2.1
        replace lt2 := Nat.le_of_lt Qt2.1
        replace qt3 := Qt3.2
        replace pt3 := Qt3.1
        replace lt3 := Nat.le_of_lt Qt3.1
        replace qt6 := Qt6.2
        replace pt6 := Qt6.1
        replace lt6 := Nat.le_of_lt Qt6.1
        replace qt8 := Qt8.2
        replace pt8 := Qt8.1
        replace lt8 := Nat.le_of_lt Qt8.1
        replace qt9 := Qt9.2
        replace pt9 := Qt9.1
        replace lt9 := Nat.le_of_lt Qt9.1
        simp only [World.size_drew] at hs
        have Ho6 : Hid (Sp twoO v17 (v16.heap.size) (v17.heap.size) (d, e) [.slice p61 d.1.length p6k1, .slice p62 d.2.length p6k2, .slice p63 e.1.length p6k3, .slice p64 e.2.length p6k4]) := hs
        clear hs
        have hS2 := bl_step hb hS.size hS
        refine hK.out _ _ (hS2) ?_
        try simp only [Act.put, List.setIfInBounds_toArray, List.set_cons_zero, List.set_cons_succ]
        clear hK K hS
        clear hS2 hb
        refine restK_two 3 8 rfl rfl (by kernel_rfl) (by rfl) (by rfl) (fun hS K hK => ?_) (fun hS K hK => ?_)
        · skip
          go_wp2_with fail
          refine (c_laws_toEntry i t c s k a b x y _).mono ?_
          rintro e9 v18 ⟨rfl, hb⟩
          have hz10 := hb.size
          replace Qt2 := Qt2.below hb
          replace Qt3 := Qt3.below hb
          replace Qt6 := Qt6.below hb
          replace Qt8 := Qt8.below hb
          replace Qt9 := Qt9.below hb
          replace Ho2a := Lib.hid (Ho2a.out.kp (kp_of_below hb (by (first | (simp; done) | (simp; omega) | omega))))
          replace Ho3 := Lib.hid (Ho3.out.kp (kp_of_below hb (by (first | (simp; done) | (simp; omega) | omega))))
          replace Ho4a := Lib.hid (Ho4a.out.kp (kp_of_below hb (by (first | (simp; done) | (simp; omega) | omega))))
          replace Ho5 := Lib.hid (Ho5.out.kp (kp_of_below hb (by (first | (simp; done) | (simp; omega) | omega))))
          replace Ho6 := Lib.hid (Ho6.out.kp (kp_of_below hb (by (first | (simp; done) | (simp; omega) | omega))))
          replace HB := Lib.hid (bl_step hb HB.out.size HB.out)
          replace qt2 := Qt2.2
          replace pt2 := Qt2.1
          replace lt2 := Nat.le_of_lt Qt2.1
          replace qt3 := Qt3.2
          replace pt3 := Qt3.1
          replace lt3 := Nat.le_of_lt Qt3.1
          replace qt6 := Qt6.2
          replace pt6 := Qt6.1
          replace lt6 := Nat.le_of_lt Qt6.1
          replace qt8 := Qt8.2
          replace pt8 := Qt8.1
          replace lt8 := Nat.le_of_lt Qt8.1
          replace qt9 := Qt9.2
          replace pt9 := Qt9.1
          replace lt9 := Nat.le_of_lt Qt9.1
          have hS2 := bl_step hb hS.size hS
          refine hK.out _ _ (hS2) ?_
          try simp only [Act.put, List.setIfInBounds_toArray, List.set_cons_zero, List.set_cons_succ]
          clear hK K hS
          clear hS2 hb
          refine restK_two 4 8 rfl rfl (by kernel_rfl) (by rfl) (by rfl) (fun hS K hK => ?_) (fun hS K hK => ?_)
          · skip
            go_wp2_with fail
            refine (KI.out p61 p62 p63 p64 p6k1 p6k2 p6k3 p6k4 _ (Ho6.out).two.1 (Ho6.out).two.2).mono ?_
            rintro e9 v19 ⟨p7a1, p7ak1, p7a2, p7ak2, p7a3, p7ak3, p7a4, p7ak4, rfl, hs, hb⟩
            have hz11 := hb.size
            replace Qt2 := Qt2.below hb
            replace Qt3 := Qt3.below hb
            replace Qt6 := Qt6.below hb
            replace Qt8 := Qt8.below hb
            replace Qt9 := Qt9.below hb
            replace Ho2a := Lib.hid (Ho2a.out.kp (kp_of_below hb (by (first | (simp; done) | (simp; omega) | omega))))
            replace Ho3 := Lib.hid (Ho3.out.kp (kp_of_below hb (by (first | (simp; done) | (simp; omega) | omega))))
            replace Ho4a := Lib.hid (Ho4a.out.kp (kp_of_below hb (by (first | (simp; done) | (simp; omega) | omega))))
            replace Ho5 := Lib.hid (Ho5.out.kp (kp_of_below hb (by (first | (simp; done) | (simp; omega) | omega))))
            replace Ho6 := Lib.hid (Ho6.out.kp (kp_of_below hb (by (first | (simp; done) | (simp; omega) | omega))))
            replace HB := Lib.hid (bl_step hb HB.out.size HB.out)
            replace qt2 := Qt2.2
            replace pt2 := Qt2.1
            replace lt2 := Nat.le_of_lt Qt2.1
            replace qt3 := Qt3.2
            replace pt3 := Qt3.1
            replace lt3 := Nat.le_of_lt Qt3.1
            replace qt6 := Qt6.2
            replace pt6 := Qt6.1
            replace lt6 := Nat.le_of_lt Qt6.1
            replace qt8 := Qt8.2
            replace pt8 := Qt8.1
            replace lt8 := Nat.le_of_lt Qt8.1
            replace qt9 := Qt9.2
            replace pt9 := Qt9.1
            replace lt9 := Nat.le_of_lt Qt9.1
            dsimp only at hs
            have Ho7a : Hid (Sp twoO v19 (v18.heap.size) (v19.heap.size) (X, Y) [.slice p7a1 X.1.length p7ak1, .slice p7a2 X.2.length p7ak2, .slice p7a3 Y.1.length p7ak3, .slice p7a4 Y.2.length p7ak4]) := hs
            clear hs
            have hS2 := bl_step hb hS.size hS
            refine hK.out _ _ hS2 ?_
            clear hK K hS
            clear hS2 hb
            refine restK_pure (v := ?_) 5 rfl (by kernel_rfl) (by kernel_rfl) (by kernel_rfl) (by kernel_rfl) (fun _ _ _ h => h) (by rfl) ?_ ?_
            rotate_left
            · intro w9; go_simp; try with_reducible rfl
            try simp only [Act.put, List.setIfInBounds_toArray, List.set_cons_zero, List.set_cons_succ]
            refine restK_pure (v := ?_) 6 rfl (by kernel_rfl) (by kernel_rfl) (by kernel_rfl) (by kernel_rfl) (fun _ _ _ h => h) (by rfl) ?_ ?_
            rotate_left
            · intro w9; go_simp; try with_reducible rfl
            try simp only [Act.put, List.setIfInBounds_toArray, List.set_cons_zero, List.set_cons_succ]
            refine restK_pure (v := ?_) 7 rfl (by kernel_rfl) (by kernel_rfl) (by kernel_rfl) (by kernel_rfl) (fun _ _ _ h => h) (by rfl) ?_ ?_
            rotate_left
            · intro w9; go_simp; try with_reducible rfl
            try simp only [Act.put, List.setIfInBounds_toArray, List.set_cons_zero, List.set_cons_succ]
            refine restK_alone 8 rfl (by kernel_rfl) (by rfl) (fun hS K hK => ?_)
            go_wp2_with fail
            have hS2 := hS.alloc hS.size (.cells ([.slice none 0 0, .slice none 0 0, .slice none 0 0, .slice none 0 0] : List Value).toArray 37)
            refine hK.out _ _ (hS2) ?_
            try simp only [Act.put, List.setIfInBounds_toArray, List.set_cons_zero, List.set_cons_succ]
            clear hK K hS
            clear hS2
            refine restK_break 9 rfl (by kernel_rfl) (by rfl) (by kernel_rfl) (fun hS K hK => ?_)
            go_wp2_with fail
            replace Qt2 := Qt2.alloc (.cells ([.slice p7a1 X.1.length p7ak1, .slice p7a2 X.2.length p7ak2, .slice p7a3 Y.1.length p7ak3, .slice p7a4 Y.2.length p7ak4] : List Value).toArray 37)
            replace Qt3 := Qt3.alloc (.cells ([.slice p7a1 X.1.length p7ak1, .slice p7a2 X.2.length p7ak2, .slice p7a3 Y.1.length p7ak3, .slice p7a4 Y.2.length p7ak4] : List Value).toArray 37)
            replace Qt6 := Qt6.alloc (.cells ([.slice p7a1 X.1.length p7ak1, .slice p7a2 X.2.length p7ak2, .slice p7a3 Y.1.length p7ak3, .slice p7a4 Y.2.length p7ak4] : List Value).toArray 37)
            replace Qt8 := Qt8.alloc (.cells ([.slice p7a1 X.1.length p7ak1, .slice p7a2 X.2.length p7ak2, .slice p7a3 Y.1.length p7ak3, .slice p7a4 Y.2.length p7ak4] : List Value).toArray 37)
            replace Qt9 := Qt9.alloc (.cells ([.slice p7a1 X.1.length p7ak1, .slice p7a2 X.2.length p7ak2, .slice p7a3 Y.1.length p7ak3, .slice p7a4 Y.2.length p7ak4] : List Value).toArray 37)
            replace Ho2a := Lib.hid (Ho2a.out.kp (kp_alloc (o := (.cells ([.slice p7a1 X.1.length p7ak1, .slice p7a2 X.2.length p7ak2, .slice p7a3 Y.1.length p7ak3, .slice p7a4 Y.2.length p7ak4] : List Value).toArray 37)) (by (first | (simp; done) | (simp; omega) | omega)) kp_refl))
            replace Ho3 := Lib.hid (Ho3.out.kp (kp_alloc (o := (.cells ([.slice p7a1 X.1.length p7ak1, .slice p7a2 X.2.length p7ak2, .slice p7a3 Y.1.length p7ak3, .slice p7a4 Y.2.length p7ak4] : List Value).toArray 37)) (by (first | (simp; done) | (simp; omega) | omega)) kp_refl))
            replace Ho4a := Lib.hid (Ho4a.out.kp (kp_alloc (o := (.cells ([.slice p7a1 X.1.length p7ak1, .slice p7a2 X.2.length p7ak2, .slice p7a3 Y.1.length p7ak3, .slice p7a4 Y.2.length p7ak4] : List Value).toArray 37)) (by (first | (simp; done) | (simp; omega) | omega)) kp_refl))
            replace Ho5 := Lib.hid (Ho5.out.kp (kp_alloc (o := (.cells ([.slice p7a1 X.1.length p7ak1, .slice p7a2 X.2.length p7ak2, .slice p7a3 Y.1.length p7ak3, .slice p7a4 Y.2.length p7ak4] : List Value).toArray 37)) (by (first | (simp; done) | (simp; omega) | omega)) kp_refl))
            replace Ho6 := Lib.hid (Ho6.out.kp (kp_alloc (o := (.cells ([.slice p7a1 X.1.length p7ak1, .slice p7a2 X.2.length p7ak2, .slice p7a3 Y.1.length p7ak3, .slice p7a4 Y.2.length p7ak4] : List Value).toArray 37)) (by (first | (simp; done) | (simp; omega) | omega)) kp_refl))
            replace Ho7a := Lib.hid (Ho7a.out.kp (kp_alloc (o := (.cells ([.slice p7a1 X.1.length p7ak1, .slice p7a2 X.2.length p7ak2, .slice p7a3 Y.1.length p7ak3, .slice p7a4 Y.2.length p7ak4] : List Value).toArray 37)) (by (first | (simp; done) | (simp; omega) | omega)) kp_refl))
            have Qt14 := Bx.new v19 [.slice p7a1 X.1.length p7ak1, .slice p7a2 X.2.length p7ak2, .slice p7a3 Y.1.length p7ak3, .slice p7a4 Y.2.length p7ak4] 37
            replace HB := Lib.hid (HB.out.alloc HB.out.size (.cells ([.slice p7a1 X.1.length p7ak1, .slice p7a2 X.2.length p7ak2, .slice p7a3 Y.1.length p7ak3, .slice p7a4 Y.2.length p7ak4] : List Value).toArray 37))
            have hz9 := Qt14.1
            simp only [World.size_alloc] at hz9
            refine hK.out _ _ trivial ?_
            clear hK K hS
            refine rest_take (v := ?_) 10 rfl (by kernel_rfl) (by kernel_rfl) (by kernel_rfl) (fun _ _ _ h => h) (by rfl) ?_ ?_
            rotate_left
            · intro w9; go_simp; try with_reducible rfl
            try simp only [Act.put, List.setIfInBounds_toArray, List.set_cons_zero, List.set_cons_succ]
            refine rest_done (by kernel_rfl) ?_
            go_wp2_with fail
            go_meet
            exact ⟨v19.heap.size, p7a1, p7ak1, p7a2, p7ak2, p7a3, p7ak3, p7a4, p7ak4, v18.heap.size, v19.heap.size, rfl, rfl, Qt14, Qt2, Qt3, Qt6, Qt8, Qt9, Ho2a, Ho3, Ho4a, Ho5, Ho7a, by (first | (simp; done) | (simp; omega) | omega), by (first | (simp; done) | (simp; omega) | omega), by (first | (simp; done) | (simp; omega) | omega), by (first | (simp; done) | (simp; omega) | omega), by (first | (simp; done) | (simp; omega) | omega), by have := hz9; (first | (simp; done) | (simp; omega) | omega), HB⟩
          · skip
            go_wp2_with fail
            have FB := Fx.new v18 [.slice none 0 0, .slice none 0 0, .slice none 0 0, .slice none 0 0] 37
            replace Qt2 := Qt2.alloc (.cells ([.slice none 0 0, .slice none 0 0, .slice none 0 0, .slice none 0 0] : List Value).toArray 37)
            replace Qt3 := Qt3.alloc (.cells ([.slice none 0 0, .slice none 0 0, .slice none 0 0, .slice none 0 0] : List Value).toArray 37)
            replace Qt6 := Qt6.alloc (.cells ([.slice none 0 0, .slice none 0 0, .slice none 0 0, .slice none 0 0] : List Value).toArray 37)
            replace Qt8 := Qt8.alloc (.cells ([.slice none 0 0, .slice none 0 0, .slice none 0 0, .slice none 0 0] : List Value).toArray 37)
            replace Qt9 := Qt9.alloc (.cells ([.slice none 0 0, .slice none 0 0, .slice none 0 0, .slice none 0 0] : List Value).toArray 37)
            replace Ho2a := Lib.hid (Ho2a.out.kp (kp_alloc (o := (.cells ([.slice none 0 0, .slice none 0 0, .slice none 0 0, .slice none 0 0] : List Value).toArray 37)) (by (first | (simp; done) | (simp; omega) | omega)) kp_refl))
            replace Ho3 := Lib.hid (Ho3.out.kp (kp_alloc (o := (.cells ([.slice none 0 0, .slice none 0 0, .slice none 0 0, .slice none 0 0] : List Value).toArray 37)) (by (first | (simp; done) | (simp; omega) | omega)) kp_refl))
            replace Ho4a := Lib.hid (Ho4a.out.kp (kp_alloc (o := (.cells ([.slice none 0 0, .slice none 0 0, .slice none 0 0, .slice none 0 0] : List Value).toArray 37)) (by (first | (simp; done) | (simp; omega) | omega)) kp_refl))
            replace Ho5 := Lib.hid (Ho5.out.kp (kp_alloc (o := (.cells ([.slice none 0 0, .slice none 0 0, .slice none 0 0, .slice none 0 0] : List Value).toArray 37)) (by (first | (simp; done) | (simp; omega) | omega)) kp_refl))
            replace Ho6 := Lib.hid (Ho6.out.kp (kp_alloc (o := (.cells ([.slice none 0 0, .slice none 0 0, .slice none 0 0, .slice none 0 0] : List Value).toArray 37)) (by (first | (simp; done) | (simp; omega) | omega)) kp_refl))
            have Qt14 := Bx.new v18 [.slice none 0 0, .slice none 0 0, .slice none 0 0, .slice none 0 0] 37
            replace HB := Lib.hid (HB.out.alloc HB.out.size (.cells ([.slice none 0 0, .slice none 0 0, .slice none 0 0, .slice none 0 0] : List Value).toArray 37))
            have hS2 := hS.alloc hS.size (.cells ([.slice none 0 0, .slice none 0 0, .slice none 0 0, .slice none 0 0] : List Value).toArray 37)
            refine hK.out _ _ (hS2) ?_
            try simp only [Act.put, List.setIfInBounds_toArray, List.set_cons_zero, List.set_cons_succ]
            clear hK K hS
            clear hS2
            refine restK_alone 4 rfl (by kernel_rfl) (by rfl) (fun hS K hK => ?_)
            go_wp2_with fail
            refine (KI.out p61 p62 p63 p64 p6k1 p6k2 p6k3 p6k4 _ (Ho6.out).two.1 (Ho6.out).two.2).mono ?_
            rintro e9 v19 ⟨p7a1, p7ak1, p7a2, p7ak2, p7a3, p7ak3, p7a4, p7ak4, rfl, hs, hb⟩
            have hz11 := hb.size
            simp only [World.size_alloc] at hz11
            replace Qt2 := Qt2.below hb
            replace Qt3 := Qt3.below hb
            replace Qt6 := Qt6.below hb
            replace Qt8 := Qt8.below hb
            replace Qt9 := Qt9.below hb
            replace Qt14 := Qt14.below hb
            replace FB := FB.below hb
            replace Ho2a := Lib.hid (Ho2a.out.kp (kp_of_below hb (by (first | (simp; done) | (simp; omega) | omega))))
            replace Ho3 := Lib.hid (Ho3.out.kp (kp_of_below hb (by (first | (simp; done) | (simp; omega) | omega))))
            replace Ho4a := Lib.hid (Ho4a.out.kp (kp_of_below hb (by (first | (simp; done) | (simp; omega) | omega))))
            replace Ho5 := Lib.hid (Ho5.out.kp (kp_of_below hb (by (first | (simp; done) | (simp; omega) | omega))))
            replace Ho6 := Lib.hid (Ho6.out.kp (kp_of_below hb (by (first | (simp; done) | (simp; omega) | omega))))
            replace HB := Lib.hid (bl_step hb HB.out.size HB.out)
            replace qt2 := Qt2.2
            replace pt2 := Qt2.1
            replace lt2 := Nat.le_of_lt Qt2.1
            replace qt3 := Qt3.2
            replace pt3 := Qt3.1
            replace lt3 := Nat.le_of_lt Qt3.1
            replace qt6 := Qt6.2
            replace pt6 := Qt6.1
            replace lt6 := Nat.le_of_lt Qt6.1
            replace qt8 := Qt8.2
            replace pt8 := Qt8.1
            replace lt8 := Nat.le_of_lt Qt8.1
            replace qt9 := Qt9.2
            replace pt9 := Qt9.1
            replace lt9 := Nat.le_of_lt Qt9.1
            have qt14 := Qt14.2
            have pt14 := Qt14.1
            have lt14 := Nat.le_of_lt Qt14.1
            simp only [World.size_alloc] at hs
            have Ho7a : Hid (Sp twoO v19 (v18.heap.size + 1) (v19.heap.size) (X, Y) [.slice p7a1 X.1.length p7ak1, .slice p7a2 X.2.length p7ak2, .slice p7a3 Y.1.length p7ak3, .slice p7a4 Y.2.length p7ak4]) := hs
            clear hs
            have hS2 := bl_step hb hS.size hS
            refine hK.out _ _ hS2 ?_
            clear hK K hS
            clear hS2 hb
            refine restK_pure (v := ?_) 5 rfl (by kernel_rfl) (by kernel_rfl) (by kernel_rfl) (by kernel_rfl) (fun _ _ _ h => h) (by rfl) ?_ ?_
            rotate_left
            · intro w9; go_simp; try with_reducible rfl
            try simp only [Act.put, List.setIfInBounds_toArray, List.set_cons_zero, List.set_cons_succ]
            refine restK_pure (v := ?_) 6 rfl (by kernel_rfl) (by kernel_rfl) (by kernel_rfl) (by kernel_rfl) (fun _ _ _ h => h) (by rfl) ?_ ?_
            rotate_left
            · intro w9; go_simp; try with_reducible rfl
            try simp only [Act.put, List.setIfInBounds_toArray, List.set_cons_zero, List.set_cons_succ]
            refine restK_pure (v := ?_) 7 rfl (by kernel_rfl) (by kernel_rfl) (by kernel_rfl) (by kernel_rfl) (fun _ _ _ h => h) (by rfl) ?_ ?_
            rotate_left
            · intro w9; go_simp; try with_reducible rfl
            try simp only [Act.put, List.setIfInBounds_toArray, List.set_cons_zero, List.set_cons_succ]
            refine restK_break 9 rfl (by kernel_rfl) (by rfl) (by kernel_rfl) (fun hS K hK => ?_)
            have fB9 := FB.2
            have hz9 := Qt14.1
            (try simp only [World.size_alloc, World.size_drew] at hz9)
            go_wp2_with fail
            clear fB9
            replace Qt2 := Qt2.setOther ⟨v18.heap.size, 0, none⟩ (.slice p7a1 X.1.length p7ak1) (by (first | (simp; done) | (simp; omega) | omega))
            replace Qt3 := Qt3.setOther ⟨v18.heap.size, 0, none⟩ (.slice p7a1 X.1.length p7ak1) (by (first | (simp; done) | (simp; omega) | omega))
            replace Qt6 := Qt6.setOther ⟨v18.heap.size, 0, none⟩ (.slice p7a1 X.1.length p7ak1) (by (first | (simp; done) | (simp; omega) | omega))
            replace Qt8 := Qt8.setOther ⟨v18.heap.size, 0, none⟩ (.slice p7a1 X.1.length p7ak1) (by (first | (simp; done) | (simp; omega) | omega))
            replace Qt9 := Qt9.setOther ⟨v18.heap.size, 0, none⟩ (.slice p7a1 X.1.length p7ak1) (by (first | (simp; done) | (simp; omega) | omega))
            replace Qt14 := Qt14.set 0 (.slice p7a1 X.1.length p7ak1) (by simp)
            replace Ho2a := Lib.hid (Ho2a.out.kp (kp_set (p := ⟨v18.heap.size, 0, none⟩) (u := .slice p7a1 X.1.length p7ak1) (by (first | (simp; done) | (simp; omega) | omega)) kp_refl))
            replace Ho3 := Lib.hid (Ho3.out.kp (kp_set (p := ⟨v18.heap.size, 0, none⟩) (u := .slice p7a1 X.1.length p7ak1) (by (first | (simp; done) | (simp; omega) | omega)) kp_refl))
            replace Ho4a := Lib.hid (Ho4a.out.kp (kp_set (p := ⟨v18.heap.size, 0, none⟩) (u := .slice p7a1 X.1.length p7ak1) (by (first | (simp; done) | (simp; omega) | omega)) kp_refl))
            replace Ho5 := Lib.hid (Ho5.out.kp (kp_set (p := ⟨v18.heap.size, 0, none⟩) (u := .slice p7a1 X.1.length p7ak1) (by (first | (simp; done) | (simp; omega) | omega)) kp_refl))
            replace Ho6 := Lib.hid (Ho6.out.kp (kp_set (p := ⟨v18.heap.size, 0, none⟩) (u := .slice p7a1 X.1.length p7ak1) (by (first | (simp; done) | (simp; omega) | omega)) kp_refl))
            replace Ho7a := Lib.hid (Ho7a.out.kp (kp_set (p := ⟨v18.heap.size, 0, none⟩) (u := .slice p7a1 X.1.length p7ak1) (by (first | (simp; done) | (simp; omega) | omega)) kp_refl))
            replace HB := Lib.hid (HB.out.setCell (p := ⟨v18.heap.size, 0, none⟩) (by have := HB.out.size; (first | (simp; done) | (simp; omega) | omega)) (.slice p7a1 X.1.length p7ak1))
            replace Qt2 := Qt2.setOther ⟨v18.heap.size, 1, none⟩ (.slice p7a2 X.2.length p7ak2) (by (first | (simp; done) | (simp; omega) | omega))
            replace Qt3 := Qt3.setOther ⟨v18.heap.size, 1, none⟩ (.slice p7a2 X.2.length p7ak2) (by (first | (simp; done) | (simp; omega) | omega))
            replace Qt6 := Qt6.setOther ⟨v18.heap.size, 1, none⟩ (.slice p7a2 X.2.length p7ak2) (by (first | (simp; done) | (simp; omega) | omega))
            replace Qt8 := Qt8.setOther ⟨v18.heap.size, 1, none⟩ (.slice p7a2 X.2.length p7ak2) (by (first | (simp; done) | (simp; omega) | omega))
            replace Qt9 := Qt9.setOther ⟨v18.heap.size, 1, none⟩ (.slice p7a2 X.2.length p7ak2) (by (first | (simp; done) | (simp; omega) | omega))
            replace Qt14 := Qt14.set 1 (.slice p7a2 X.2.length p7ak2) (by simp)
            replace Ho2a := Lib.hid (Ho2a.out.kp (kp_set (p := ⟨v18.heap.size, 1, none⟩) (u := .slice p7a2 X.2.length p7ak2) (by (first | (simp; done) | (simp; omega) | omega)) kp_refl))
            replace Ho3 := Lib.hid (Ho3.out.kp (kp_set (p := ⟨v18.heap.size, 1, none⟩) (u := .slice p7a2 X.2.length p7ak2) (by (first | (simp; done) | (simp; omega) | omega)) kp_refl))
            replace Ho4a := Lib.hid (Ho4a.out.kp (kp_set (p := ⟨v18.heap.size, 1, none⟩) (u := .slice p7a2 X.2.length p7ak2) (by (first | (simp; done) | (simp; omega) | omega)) kp_refl))
            replace Ho5 := Lib.hid (Ho5.out.kp (kp_set (p := ⟨v18.heap.size, 1, none⟩) (u := .slice p7a2 X.2.length p7ak2) (by (first | (simp; done) | (simp; omega) | omega)) kp_refl))
            replace Ho6 := Lib.hid (Ho6.out.kp (kp_set (p := ⟨v18.heap.size, 1, none⟩) (u := .slice p7a2 X.2.length p7ak2) (by (first | (simp; done) | (simp; omega) | omega)) kp_refl))
            replace Ho7a := Lib.hid (Ho7a.out.kp (kp_set (p := ⟨v18.heap.size, 1, none⟩) (u := .slice p7a2 X.2.length p7ak2) (by (first | (simp; done) | (simp; omega) | omega)) kp_refl))
            replace HB := Lib.hid (HB.out.setCell (p := ⟨v18.heap.size, 1, none⟩) (by have := HB.out.size; (first | (simp; done) | (simp; omega) | omega)) (.slice p7a2 X.2.length p7ak2))
            replace Qt2 := Qt2.setOther ⟨v18.heap.size, 2, none⟩ (.slice p7a3 Y.1.length p7ak3) (by (first | (simp; done) | (simp; omega) | omega))
            replace Qt3 := Qt3.setOther ⟨v18.heap.size, 2, none⟩ (.slice p7a3 Y.1.length p7ak3) (by (first | (simp; done) | (simp; omega) | omega))
            replace Qt6 := Qt6.setOther ⟨v18.heap.size, 2, none⟩ (.slice p7a3 Y.1.length p7ak3) (by (first | (simp; done) | (simp; omega) | omega))
            replace Qt8 := Qt8.setOther ⟨v18.heap.size, 2, none⟩ (.slice p7a3 Y.1.length p7ak3) (by (first | (simp; done) | (simp; omega) | omega))
            replace Qt9 := Qt9.setOther ⟨v18.heap.size, 2, none⟩ (.slice p7a3 Y.1.length p7ak3) (by (first | (simp; done) | (simp; omega) | omega))
            replace Qt14 := Qt14.set 2 (.slice p7a3 Y.1.length p7ak3) (by simp)
            replace Ho2a := Lib.hid (Ho2a.out.kp (kp_set (p := ⟨v18.heap.size, 2, none⟩) (u := .slice p7a3 Y.1.length p7ak3) (by (first | (simp; done) | (simp; omega) | omega)) kp_refl))
            replace Ho3 := Lib.hid (Ho3.out.kp (kp_set (p := ⟨v18.heap.size, 2, none⟩) (u := .slice p7a3 Y.1.length p7ak3) (by (first | (simp; done) | (simp; omega) | omega)) kp_refl))
            replace Ho4a := Lib.hid (Ho4a.out.kp (kp_set (p := ⟨v18.heap.size, 2, none⟩) (u := .slice p7a3 Y.1.length p7ak3) (by (first | (simp; done) | (simp; omega) | omega)) kp_refl))
            replace Ho5 := Lib.hid (Ho5.out.kp (kp_set (p := ⟨v18.heap.size, 2, none⟩) (u := .slice p7a3 Y.1.length p7ak3) (by (first | (simp; done) | (simp; omega) | omega)) kp_refl))
            replace Ho6 := Lib.hid (Ho6.out.kp (kp_set (p := ⟨v18.heap.size, 2, none⟩) (u := .slice p7a3 Y.1.length p7ak3) (by (first | (simp; done) | (simp; omega) | omega)) kp_refl))
            replace Ho7a := Lib.hid (Ho7a.out.kp (kp_set (p := ⟨v18.heap.size, 2, none⟩) (u := .slice p7a3 Y.1.length p7ak3) (by (first | (simp; done) | (simp; omega) | omega)) kp_refl))
            replace HB := Lib.hid (HB.out.setCell (p := ⟨v18.heap.size, 2, none⟩) (by have := HB.out.size; (first | (simp; done) | (simp; omega) | omega)) (.slice p7a3 Y.1.length p7ak3))
            replace Qt2 := Qt2.setOther ⟨v18.heap.size, 3, none⟩ (.slice p7a4 Y.2.length p7ak4) (by (first | (simp; done) | (simp; omega) | omega))
            replace Qt3 := Qt3.setOther ⟨v18.heap.size, 3, none⟩ (.slice p7a4 Y.2.length p7ak4) (by (first | (simp; done) | (simp; omega) | omega))
            replace Qt6 := Qt6.setOther ⟨v18.heap.size, 3, none⟩ (.slice p7a4 Y.2.length p7ak4) (by (first | (simp; done) | (simp; omega) | omega))
            replace Qt8 := Qt8.setOther ⟨v18.heap.size, 3, none⟩ (.slice p7a4 Y.2.length p7ak4) (by (first | (simp; done) | (simp; omega) | omega))
            replace Qt9 := Qt9.setOther ⟨v18.heap.size, 3, none⟩ (.slice p7a4 Y.2.length p7ak4) (by (first | (simp; done) | (simp; omega) | omega))
            replace Qt14 := Qt14.set 3 (.slice p7a4 Y.2.length p7ak4) (by simp)
            replace Ho2a := Lib.hid (Ho2a.out.kp (kp_set (p := ⟨v18.heap.size, 3, none⟩) (u := .slice p7a4 Y.2.length p7ak4) (by (first | (simp; done) | (simp; omega) | omega)) kp_refl))
            replace Ho3 := Lib.hid (Ho3.out.kp (kp_set (p := ⟨v18.heap.size, 3, none⟩) (u := .slice p7a4 Y.2.length p7ak4) (by (first | (simp; done) | (simp; omega) | omega)) kp_refl))
            replace Ho4a := Lib.hid (Ho4a.out.kp (kp_set (p := ⟨v18.heap.size, 3, none⟩) (u := .slice p7a4 Y.2.length p7ak4) (by (first | (simp; done) | (simp; omega) | omega)) kp_refl))
            replace Ho5 := Lib.hid (Ho5.out.kp (kp_set (p := ⟨v18.heap.size, 3, none⟩) (u := .slice p7a4 Y.2.length p7ak4) (by (first | (simp; done) | (simp; omega) | omega)) kp_refl))
            replace Ho6 := Lib.hid (Ho6.out.kp (kp_set (p := ⟨v18.heap.size, 3, none⟩) (u := .slice p7a4 Y.2.length p7ak4) (by (first | (simp; done) | (simp; omega) | omega)) kp_refl))
            replace Ho7a := Lib.hid (Ho7a.out.kp (kp_set (p := ⟨v18.heap.size, 3, none⟩) (u := .slice p7a4 Y.2.length p7ak4) (by (first | (simp; done) | (simp; omega) | omega)) kp_refl))
            replace HB := Lib.hid (HB.out.setCell (p := ⟨v18.heap.size, 3, none⟩) (by have := HB.out.size; (first | (simp; done) | (simp; omega) | omega)) (.slice p7a4 Y.2.length p7ak4))
            simp only [List.set_cons_succ, List.set_cons_zero] at Qt14
            refine hK.out _ _ trivial ?_
            clear hK K hS
            refine rest_take (v := ?_) 10 rfl (by kernel_rfl) (by kernel_rfl) (by kernel_rfl) (fun _ _ _ h => h) (by rfl) ?_ ?_
            rotate_left
            · intro w9; go_simp; try with_reducible rfl
            try simp only [Act.put, List.setIfInBounds_toArray, List.set_cons_zero, List.set_cons_succ]
            refine rest_done (by kernel_rfl) ?_
            go_wp2_with fail
            go_meet
            exact ⟨v18.heap.size, p7a1, p7ak1, p7a2, p7ak2, p7a3, p7ak3, p7a4, p7ak4, v18.heap.size + 1, v19.heap.size, rfl, rfl, Qt14, Qt2, Qt3, Qt6, Qt8, Qt9, Ho2a, Ho3, Ho4a, Ho5, Ho7a, by (first | (simp; done) | (simp; omega) | omega), by (first | (simp; done) | (simp; omega) | omega), by (first | (simp; done) | (simp; omega) | omega), by (first | (simp; done) | (simp; omega) | omega), by (first | (simp; done) | (simp; omega) | omega), by have := hz9; (first | (simp; done) | (simp; omega) | omega), HB⟩
        · skip
          go_wp2_with fail
          have FB := Fx.new v17 [.slice none 0 0, .slice none 0 0, .slice none 0 0, .slice none 0 0] 37
          replace Qt2 := Qt2.alloc (.cells ([.slice none 0 0, .slice none 0 0, .slice none 0 0, .slice none 0 0] : List Value).toArray 37)
          replace Qt3 := Qt3.alloc (.cells ([.slice none 0 0, .slice none 0 0, .slice none 0 0, .slice none 0 0] : List Value).toArray 37)
          replace Qt6 := Qt6.alloc (.cells ([.slice none 0 0, .slice none 0 0, .slice none 0 0, .slice none 0 0] : List Value).toArray 37)
          replace Qt8 := Qt8.alloc (.cells ([.slice none 0 0, .slice none 0 0, .slice none 0 0, .slice none 0 0] : List Value).toArray 37)
          replace Qt9 := Qt9.alloc (.cells ([.slice none 0 0, .slice none 0 0, .slice none 0 0, .slice none 0 0] : List Value).toArray 37)
          replace Ho2a := Lib.hid (Ho2a.out.kp (kp_alloc (o := (.cells ([.slice none 0 0, .slice none 0 0, .slice none 0 0, .slice none 0 0] : List Value).toArray 37)) (by (first | (simp; done) | (simp; omega) | omega)) kp_refl))
          replace Ho3 := Lib.hid (Ho3.out.kp (kp_alloc (o := (.cells ([.slice none 0 0, .slice none 0 0, .slice none 0 0, .slice none 0 0] : List Value).toArray 37)) (by (first | (simp; done) | (simp; omega) | omega)) kp_refl))
          replace Ho4a := Lib.hid (Ho4a.out.kp (kp_alloc (o := (.cells ([.slice none 0 0, .slice none 0 0, .slice none 0 0, .slice none 0 0] : List Value).toArray 37)) (by (first | (simp; done) | (simp; omega) | omega)) kp_refl))
          replace Ho5 := Lib.hid (Ho5.out.kp (kp_alloc (o := (.cells ([.slice none 0 0, .slice none 0 0, .slice none 0 0, .slice none 0 0] : List Value).toArray 37)) (by (first | (simp; done) | (simp; omega) | omega)) kp_refl))
          replace Ho6 := Lib.hid (Ho6.out.kp (kp_alloc (o := (.cells ([.slice none 0 0, .slice none 0 0, .slice none 0 0, .slice none 0 0] : List Value).toArray 37)) (by (first | (simp; done) | (simp; omega) | omega)) kp_refl))
          have Qt14 := Bx.new v17 [.slice none 0 0, .slice none 0 0, .slice none 0 0, .slice none 0 0] 37
          replace HB := Lib.hid (HB.out.alloc HB.out.size (.cells ([.slice none 0 0, .slice none 0 0, .slice none 0 0, .slice none 0 0] : List Value).toArray 37))
          have hS2 := hS.alloc hS.size (.cells ([.slice none 0 0, .slice none 0 0, .slice none 0 0, .slice none 0 0] : List Value).toArray 37)
          refine hK.out _ _ (hS2) ?_
          try simp only [Act.put, List.setIfInBounds_toArray, List.set_cons_zero, List.set_cons_succ]
          clear hK K hS
          clear hS2
          refine restK_alone 3 rfl (by kernel_rfl) (by rfl) (fun hS K hK => ?_)
          go_wp2_with fail
          refine (c_laws_toEntry i t c s k a b x y _).mono ?_
          rintro e9 v18 ⟨rfl, hb⟩
          have hz10 := hb.size
          simp only [World.size_alloc] at hz10
          replace Qt2 := Qt2.below hb
          replace Qt3 := Qt3.below hb
          replace Qt6 := Qt6.below hb
          replace Qt8 := Qt8.below hb
          replace Qt9 := Qt9.below hb
          replace Qt14 := Qt14.below hb
          replace FB := FB.below hb
          replace Ho2a := Lib.hid (Ho2a.out.kp (kp_of_below hb (by (first | (simp; done) | (simp; omega) | omega))))
          replace Ho3 := Lib.hid (Ho3.out.kp (kp_of_below hb (by (first | (simp; done) | (simp; omega) | omega))))
          replace Ho4a := Lib.hid (Ho4a.out.kp (kp_of_below hb (by (first | (simp; done) | (simp; omega) | omega))))
          replace Ho5 := Lib.hid (Ho5.out.kp (kp_of_below hb (by (first | (simp; done) | (simp; omega) | omega))))
          replace Ho6 := Lib.hid (Ho6.out.kp (kp_of_below hb (by (first | (simp; done) | (simp; omega) | omega))))
          replace HB := Lib.hid (bl_step hb HB.out.size HB.out)
          replace qt2 := Qt2.2
          replace pt2 := Qt2.1
          replace lt2 := Nat.le_of_lt Qt2.1
          replace qt3 := Qt3.2
          replace pt3 := Qt3.1
          replace lt3 := Nat.le_of_lt Qt3.1
          replace qt6 := Qt6.2
          replace pt6 := Qt6.1
          replace lt6 := Nat.le_of_lt Qt6.1
          replace qt8 := Qt8.2
          replace pt8 := Qt8.1
          replace lt8 := Nat.le_of_lt Qt8.1
          replace qt9 := Qt9.2
          replace pt9 := Qt9.1
          replace lt9 := Nat.le_of_lt Qt9.1
          have qt14 := Qt14.2
          have pt14 := Qt14.1
          have lt14 := Nat.le_of_lt Qt14.1
          have hS2 := bl_step hb hS.size hS
          refine hK.out _ _ (hS2) ?_
          try simp only [Act.put, List.setIfInBounds_toArray, List.set_cons_zero, List.set_cons_succ]
          clear hK K hS
          clear hS2 hb
          refine restK_alone 4 rfl (by kernel_rfl) (by rfl) (fun hS K hK => ?_)
          go_wp2_with fail
          refine (KI.out p61 p62 p63 p64 p6k1 p6k2 p6k3 p6k4 _ (Ho6.out).two.1 (Ho6.out).two.2).mono ?_
          rintro e9 v19 ⟨p7a1, p7ak1, p7a2, p7ak2, p7a3, p7ak3, p7a4, p7ak4, rfl, hs, hb⟩
          have hz11 := hb.size
          replace Qt2 := Qt2.below hb
          replace Qt3 := Qt3.below hb
          replace Qt6 := Qt6.below hb
          replace Qt8 := Qt8.below hb
          replace Qt9 := Qt9.below hb
          replace Qt14 := Qt14.below hb
          replace FB := FB.below hb
          replace Ho2a := Lib.hid (Ho2a.out.kp (kp_of_below hb (by (first | (simp; done) | (simp; omega) | omega))))
          replace Ho3 := Lib.hid (Ho3.out.kp (kp_of_below hb (by (first | (simp; done) | (simp; omega) | omega))))
          replace Ho4a := Lib.hid (Ho4a.out.kp (kp_of_below hb (by (first | (simp; done) | (simp; omega) | omega))))
          replace Ho5 := Lib.hid (Ho5.out.kp (kp_of_below hb (by (first | (simp; done) | (simp; omega) | omega))))
          replace Ho6 := Lib.hid (Ho6.out.kp (kp_of_below hb (by (first | (simp; done) | (simp; omega) | omega))))
          replace HB := Lib.hid (bl_step hb HB.out.size HB.out)
          replace qt2 := Qt2.2
          replace pt2 := Qt2.1
          replace lt2 := Nat.le_of_lt Qt2.1
          replace qt3 := Qt3.2
          replace pt3 := Qt3.1
          replace lt3 := Nat.le_of_lt Qt3.1
          replace qt6 := Qt6.2
          replace pt6 := Qt6.1
          replace lt6 := Nat.le_of_lt Qt6.1
          replace qt8 := Qt8.2
          replace pt8 := Qt8.1
          replace lt8 := Nat.le_of_lt Qt8.1
          replace qt9 := Qt9.2
          replace pt9 := Qt9.1
          replace lt9 := Nat.le_of_lt Qt9.1
          replace qt14 := Qt14.2
          replace pt14 := Qt14.1
          replace lt14 := Nat.le_of_lt Qt14.1
          dsimp only at hs
          have Ho7a : Hid (Sp twoO v19 (v18.heap.size) (v19.heap.size) (X, Y) [.slice p7a1 X.1.length p7ak1, .slice p7a2 X.2.length p7ak2, .slice p7a3 Y.1.length p7ak3, .slice p7a4 Y.2.length p7ak4]) := hs
          clear hs
          have hS2 := bl_step hb hS.size hS
          refine hK.out _ _ hS2 ?_
          clear hK K hS
          clear hS2 hb
          refine restK_pure (v := ?_) 5 rfl (by kernel_rfl) (by kernel_rfl) (by kernel_rfl) (by kernel_rfl) (fun _ _ _ h => h) (by rfl) ?_ ?_
          rotate_left
          · intro w9; go_simp; try with_reducible rfl
          try simp only [Act.put, List.setIfInBounds_toArray, List.set_cons_zero, List.set_cons_succ]
          refine restK_pure (v := ?_) 6 rfl (by kernel_rfl) (by kernel_rfl) (by kernel_rfl) (by kernel_rfl) (fun _ _ _ h => h) (by rfl) ?_ ?_
          rotate_left
          · intro w9; go_simp; try with_reducible rfl
          try simp only [Act.put, List.setIfInBounds_toArray, List.set_cons_zero, List.set_cons_succ]
          refine restK_pure (v := ?_) 7 rfl (by kernel_rfl) (by kernel_rfl) (by kernel_rfl) (by kernel_rfl) (fun _ _ _ h => h) (by rfl) ?_ ?_
          rotate_left
          · intro w9; go_simp; try with_reducible rfl
          try simp only [Act.put, List.setIfInBounds_toArray, List.set_cons_zero, List.set_cons_succ]
          refine restK_break 9 rfl (by kernel_rfl) (by rfl) (by kernel_rfl) (fun hS K hK => ?_)
          have fB9 := FB.2
          have hz9 := Qt14.1
          (try simp only [World.size_alloc, World.size_drew] at hz9)
          go_wp2_with fail
          clear fB9
          replace Qt2 := Qt2.setOther ⟨v17.heap.size, 0, none⟩ (.slice p7a1 X.1.length p7ak1) (by (first | (simp; done) | (simp; omega) | omega))
          replace Qt3 := Qt3.setOther ⟨v17.heap.size, 0, none⟩ (.slice p7a1 X.1.length p7ak1) (by (first | (simp; done) | (simp; omega) | omega))
          replace Qt6 := Qt6.setOther ⟨v17.heap.size, 0, none⟩ (.slice p7a1 X.1.length p7ak1) (by (first | (simp; done) | (simp; omega) | omega))
          replace Qt8 := Qt8.setOther ⟨v17.heap.size, 0, none⟩ (.slice p7a1 X.1.length p7ak1) (by (first | (simp; done) | (simp; omega) | omega))
          replace Qt9 := Qt9.setOther ⟨v17.heap.size, 0, none⟩ (.slice p7a1 X.1.length p7ak1) (by (first | (simp; done) | (simp; omega) | omega))
          replace Qt14 := Qt14.set 0 (.slice p7a1 X.1.length p7ak1) (by simp)
          replace Ho2a := Lib.hid (Ho2a.out.kp (kp_set (p := ⟨v17.heap.size, 0, none⟩) (u := .slice p7a1 X.1.length p7ak1) (by (first | (simp; done) | (simp; omega) | omega)) kp_refl))
          replace Ho3 := Lib.hid (Ho3.out.kp (kp_set (p := ⟨v17.heap.size, 0, none⟩) (u := .slice p7a1 X.1.length p7ak1) (by (first | (simp; done) | (simp; omega) | omega)) kp_refl))
          replace Ho4a := Lib.hid (Ho4a.out.kp (kp_set (p := ⟨v17.heap.size, 0, none⟩) (u := .slice p7a1 X.1.length p7ak1) (by (first | (simp; done) | (simp; omega) | omega)) kp_refl))
          replace Ho5 := Lib.hid (Ho5.out.kp (kp_set (p := ⟨v17.heap.size, 0, none⟩) (u := .slice p7a1 X.1.length p7ak1) (by (first | (simp; done) | (simp; omega) | omega)) kp_refl))
          replace Ho6 := Lib.hid (Ho6.out.kp (kp_set (p := ⟨v17.heap.size, 0, none⟩) (u := .slice p7a1 X.1.length p7ak1) (by (first | (simp; done) | (simp; omega) | omega)) kp_refl))
          replace Ho7a := Lib.hid (Ho7a.out.kp (kp_set (p := ⟨v17.heap.size, 0, none⟩) (u := .slice p7a1 X.1.length p7ak1) (by (first | (simp; done) | (simp; omega) | omega)) kp_refl))
          replace HB := Lib.hid (HB.out.setCell (p := ⟨v17.heap.size, 0, none⟩) (by have := HB.out.size; (first | (simp; done) | (simp; omega) | omega)) (.slice p7a1 X.1.length p7ak1))
          replace Qt2 := Qt2.setOther ⟨v17.heap.size, 1, none⟩ (.slice p7a2 X.2.length p7ak2) (by (first | (simp; done) | (simp; omega) | omega))
          replace Qt3 := Qt3.setOther ⟨v17.heap.size, 1, none⟩ (.slice p7a2 X.2.length p7ak2) (by (first | (simp; done) | (simp; omega) | omega))
          replace Qt6 := Qt6.setOther ⟨v17.heap.size, 1, none⟩ (.slice p7a2 X.2.length p7ak2) (by (first | (simp; done) | (simp; omega) | omega))
          replace Qt8 := Qt8.setOther ⟨v17.heap.size, 1, none⟩ (.slice p7a2 X.2.length p7ak2) (by (first | (simp; done) | (simp; omega) | omega))
          replace Qt9 := Qt9.setOther ⟨v17.heap.size, 1, none⟩ (.slice p7a2 X.2.length p7ak2) (by (first | (simp; done) | (simp; omega) | omega))
          replace Qt14 := Qt14.set 1 (.slice p7a2 X.2.length p7ak2) (by simp)
          replace Ho2a := Lib.hid (Ho2a.out.kp (kp_set (p := ⟨v17.heap.size, 1, none⟩) (u := .slice p7a2 X.2.length p7ak2) (by (first | (simp; done) | (simp; omega) | omega)) kp_refl))
          replace Ho3 := Lib.hid (Ho3.out.kp (kp_set (p := ⟨v17.heap.size, 1, none⟩) (u := .slice p7a2 X.2.length p7ak2) (by (first | (simp; done) | (simp; omega) | omega)) kp_refl))
          replace Ho4a := Lib.hid (Ho4a.out.kp (kp_set (p := ⟨v17.heap.size, 1, none⟩) (u := .slice p7a2 X.2.length p7ak2) (by (first | (simp; done) | (simp; omega) | omega)) kp_refl))
          replace Ho5 := Lib.hid (Ho5.out.kp (kp_set (p := ⟨v17.heap.size, 1, none⟩) (u := .slice p7a2 X.2.length p7ak2) (by (first | (simp; done) | (simp; omega) | omega)) kp_refl))
          replace Ho6 := Lib.hid (Ho6.out.kp (kp_set (p := ⟨v17.heap.size, 1, none⟩) (u := .slice p7a2 X.2.length p7ak2) (by (first | (simp; done) | (simp; omega) | omega)) kp_refl))
          replace Ho7a := Lib.hid (Ho7a.out.kp (kp_set (p := ⟨v17.heap.size, 1, none⟩) (u := .slice p7a2 X.2.length p7ak2) (by (first | (simp; done) | (simp; omega) | omega)) kp_refl))
          replace HB := Lib.hid (HB.out.setCell (p := ⟨v17.heap.size, 1, none⟩) (by have := HB.out.size; (first | (simp; done) | (simp; omega) | omega)) (.slice p7a2 X.2.length p7ak2))
          replace Qt2 := Qt2.setOther ⟨v17.heap.size, 2, none⟩ (.slice p7a3 Y.1.length p7ak3) (by (first | (simp; done) | (simp; omega) | omega))
          replace Qt3 := Qt3.setOther ⟨v17.heap.size, 2, none⟩ (.slice p7a3 Y.1.length p7ak3) (by (first | (simp; done) | (simp; omega) | omega))
          replace Qt6 := Qt6.setOther ⟨v17.heap.size, 2, none⟩ (.slice p7a3 Y.1.length p7ak3) (by (first | (simp; done) | (simp; omega) | omega))
          replace Qt8 := Qt8.setOther ⟨v17.heap.size, 2, none⟩ (.slice p7a3 Y.1.length p7ak3) (by (first | (simp; done) | (simp; omega) | omega))
          replace Qt9 := Qt9.setOther ⟨v17.heap.size, 2, none⟩ (.slice p7a3 Y.1.length p7ak3) (by (first | (simp; done) | (simp; omega) | omega))
          replace Qt14 := Qt14.set 2 (.slice p7a3 Y.1.length p7ak3) (by simp)
          replace Ho2a := Lib.hid (Ho2a.out.kp (kp_set (p := ⟨v17.heap.size, 2, none⟩) (u := .slice p7a3 Y.1.length p7ak3) (by (first | (simp; done) | (simp; omega) | omega)) kp_refl))
          replace Ho3 := Lib.hid (Ho3.out.kp (kp_set (p := ⟨v17.heap.size, 2, none⟩) (u := .slice p7a3 Y.1.length p7ak3) (by (first | (simp; done) | (simp; omega) | omega)) kp_refl))
          replace Ho4a := Lib.hid (Ho4a.out.kp (kp_set (p := ⟨v17.heap.size, 2, none⟩) (u := .slice p7a3 Y.1.length p7ak3) (by (first | (simp; done) | (simp; omega) | omega)) kp_refl))
          replace Ho5 := Lib.hid (Ho5.out.kp (kp_set (p := ⟨v17.heap.size, 2, none⟩) (u := .slice p7a3 Y.1.length p7ak3) (by (first | (simp; done) | (simp; omega) | omega)) kp_refl))
          replace Ho6 := Lib.hid (Ho6.out.kp (kp_set (p := ⟨v17.heap.size, 2, none⟩) (u := .slice p7a3 Y.1.length p7ak3) (by (first | (simp; done) | (simp; omega) | omega)) kp_refl))
          replace Ho7a := Lib.hid (Ho7a.out.kp (kp_set (p := ⟨v17.heap.size, 2, none⟩) (u := .slice p7a3 Y.1.length p7ak3) (by (first | (simp; done) | (simp; omega) | omega)) kp_refl))
          replace HB := Lib.hid (HB.out.setCell (p := ⟨v17.heap.size, 2, none⟩) (by have := HB.out.size; (first | (simp; done) | (simp; omega) | omega)) (.slice p7a3 Y.1.length p7ak3))
          replace Qt2 := Qt2.setOther ⟨v17.heap.size, 3, none⟩ (.slice p7a4 Y.2.length p7ak4) (by (first | (simp; done) | (simp; omega) | omega))
          replace Qt3 := Qt3.setOther ⟨v17.heap.size, 3, none⟩ (.slice p7a4 Y.2.length p7ak4) (by (first | (simp; done) | (simp; omega) | omega))
          replace Qt6 := Qt6.setOther ⟨v17.heap.size, 3, none⟩ (.slice p7a4 Y.2.length p7ak4) (by (first | (simp; done) | (simp; omega) | omega))
          replace Qt8 := Qt8.setOther ⟨v17.heap.size, 3, none⟩ (.slice p7a4 Y.2.length p7ak4) (by (first | (simp; done) | (simp; omega) | omega))
          replace Qt9 := Qt9.setOther ⟨v17.heap.size, 3, none⟩ (.slice p7a4 Y.2.length p7ak4) (by (first | (simp; done) | (simp; omega) | omega))
          replace Qt14 := Qt14.set 3 (.slice p7a4 Y.2.length p7ak4) (by simp)
          replace Ho2a := Lib.hid (Ho2a.out.kp (kp_set (p := ⟨v17.heap.size, 3, none⟩) (u := .slice p7a4 Y.2.length p7ak4) (by (first | (simp; done) | (simp; omega) | omega)) kp_refl))
          replace Ho3 := Lib.hid (Ho3.out.kp (kp_set (p := ⟨v17.heap.size, 3, none⟩) (u := .slice p7a4 Y.2.length p7ak4) (by (first | (simp; done) | (simp; omega) | omega)) kp_refl))
          replace Ho4a := Lib.hid (Ho4a.out.kp (kp_set (p := ⟨v17.heap.size, 3, none⟩) (u := .slice p7a4 Y.2.length p7ak4) (by (first | (simp; done) | (simp; omega) | omega)) kp_refl))
          replace Ho5 := Lib.hid (Ho5.out.kp (kp_set (p := ⟨v17.heap.size, 3, none⟩) (u := .slice p7a4 Y.2.length p7ak4) (by (first | (simp; done) | (simp; omega) | omega)) kp_refl))
          replace Ho6 := Lib.hid (Ho6.out.kp (kp_set (p := ⟨v17.heap.size, 3, none⟩) (u := .slice p7a4 Y.2.length p7ak4) (by (first | (simp; done) | (simp; omega) | omega)) kp_refl))
          replace Ho7a := Lib.hid (Ho7a.out.kp (kp_set (p := ⟨v17.heap.size, 3, none⟩) (u := .slice p7a4 Y.2.length p7ak4) (by (first | (simp; done) | (simp; omega) | omega)) kp_refl))
          replace HB := Lib.hid (HB.out.setCell (p := ⟨v17.heap.size, 3, none⟩) (by have := HB.out.size; (first | (simp; done) | (simp; omega) | omega)) (.slice p7a4 Y.2.length p7ak4))
          simp only [List.set_cons_succ, List.set_cons_zero] at Qt14
          refine hK.out _ _ trivial ?_
          clear hK K hS
          refine rest_take (v := ?_) 10 rfl (by kernel_rfl) (by kernel_rfl) (by kernel_rfl) (fun _ _ _ h => h) (by rfl) ?_ ?_
          rotate_left
          · intro w9; go_simp; try with_reducible rfl
          try simp only [Act.put, List.setIfInBounds_toArray, List.set_cons_zero, List.set_cons_succ]
          refine rest_done (by kernel_rfl) ?_
          go_wp2_with fail
          go_meet
          exact ⟨v17.heap.size, p7a1, p7ak1, p7a2, p7ak2, p7a3, p7ak3, p7a4, p7ak4, v18.heap.size, v19.heap.size, rfl, rfl, Qt14, Qt2, Qt3, Qt6, Qt8, Qt9, Ho2a, Ho3, Ho4a, Ho5, Ho7a, by (first | (simp; done) | (simp; omega) | omega), by (first | (simp; done) | (simp; omega) | omega), by (first | (simp; done) | (simp; omega) | omega), by (first | (simp; done) | (simp; omega) | omega), by (first | (simp; done) | (simp; omega) | omega), by have := hz9; (first | (simp; done) | (simp; omega) | omega), HB⟩
      · skip
        replace Qt2 := Qt2.drew
        replace Qt3 := Qt3.drew
        replace Qt6 := Qt6.drew
        replace Qt8 := Qt8.drew
        replace Qt9 := Qt9.drew
        replace Ho2a := Lib.hid (Ho2a.out.kp (kp_drew kp_refl))
        replace Ho3 := Lib.hid (Ho3.out.kp (kp_drew kp_refl))
        replace Ho4a := Lib.hid (Ho4a.out.kp (kp_drew kp_refl))
        replace Ho5 := Lib.hid (Ho5.out.kp (kp_drew kp_refl))
        replace HB := Lib.hid HB.out.drew
        go_wp2_with fail
        have FB := Fx.new v16.drew [.slice none 0 0, .slice none 0 0, .slice none 0 0, .slice none 0 0] 37
        simp only [World.size_drew] at FB
        replace Qt2 := Qt2.alloc (.cells ([.slice none 0 0, .slice none 0 0, .slice none 0 0, .slice none 0 0] : List Value).toArray 37)
        replace Qt3 := Qt3.alloc (.cells ([.slice none 0 0, .slice none 0 0, .slice none 0 0, .slice none 0 0] : List Value).toArray 37)
        replace Qt6 := Qt6.alloc (.cells ([.slice none 0 0, .slice none 0 0, .slice none 0 0, .slice none 0 0] : List Value).toArray 37)
        replace Qt8 := Qt8.alloc (.cells ([.slice none 0 0, .slice none 0 0, .slice none 0 0, .slice none 0 0] : List Value).toArray 37)
        replace Qt9 := Qt9.alloc (.cells ([.slice none 0 0, .slice none 0 0, .slice none 0 0, .slice none 0 0] : List Value).toArray 37)
        replace Ho2a := Lib.hid (Ho2a.out.kp (kp_alloc (o := (.cells ([.slice none 0 0, .slice none 0 0, .slice none 0 0, .slice none 0 0] : List Value).toArray 37)) (by (first | (simp; done) | (simp; omega) | omega)) kp_refl))
        replace Ho3 := Lib.hid (Ho3.out.kp (kp_alloc (o := (.cells ([.slice none 0 0, .slice none 0 0, .slice none 0 0, .slice none 0 0] : List Value).toArray 37)) (by (first | (simp; done) | (simp; omega) | omega)) kp_refl))
        replace Ho4a := Lib.hid (Ho4a.out.kp (kp_alloc (o := (.cells ([.slice none 0 0, .slice none 0 0, .slice none 0 0, .slice none 0 0] : List Value).toArray 37)) (by (first | (simp; done) | (simp; omega) | omega)) kp_refl))
        replace Ho5 := Lib.hid (Ho5.out.kp (kp_alloc (o := (.cells ([.slice none 0 0, .slice none 0 0, .slice none 0 0, .slice none 0 0] : List Value).toArray 37)) (by (first | (simp; done) | (simp; omega) | omega)) kp_refl))
        have Qt14 := Bx.new v16.drew [.slice none 0 0, .slice none 0 0, .slice none 0 0, .slice none 0 0] 37
        simp only [World.size_drew] at Qt14
        replace HB := Lib.hid (HB.out.alloc HB.out.size (.cells ([.slice none 0 0, .slice none 0 0, .slice none 0 0, .slice none 0 0] : List Value).toArray 37))
        have hS2 := hS.alloc hS.size (.cells ([.slice none 0 0, .slice none 0 0, .slice none 0 0, .slice none 0 0] : List Value).toArray 37)
        refine hK.out _ _ (hS2) ?_
        try simp only [Act.put, List.setIfInBounds_toArray, List.set_cons_zero, List.set_cons_succ]
        clear hK K hS
        clear hS2
        refine restK_alone 1 rfl (by kernel_rfl) (by rfl) (fun hS K hK => ?_)
        go_wp2_with fail
        refine (c_toTwo a1 a2 a3 a4 ak1 ak2 ak3 ak4 d e _ (HD.out _ HB.out) (HE.out _ HB.out) HSd.out.1 HSe.out.1).mono ?_
        rintro e9 v17 ⟨p61, p6k1, p62, p6k2, p63, p6k3, p64, p6k4, rfl, hs, hb⟩
        have hz9 := hb.size
        simp only [World.size_alloc, World.size_drew] at hz9
        replace Qt2 := Qt2.below hb
        replace Qt3 := Qt3.below hb
        replace Qt6 := Qt6.below hb
        replace Qt8 := Qt8.below hb
        replace Qt9 := Qt9.below hb
        replace Qt14 := Qt14.below hb
        replace FB := FB.below hb
        replace Ho2a := Lib.hid (Ho2a.out.kp (kp_of_below hb (by (first | (simp; done) | (simp; omega) | omega))))
        replace Ho3 := Lib.hid (Ho3.out.kp (kp_of_below hb (by (first | (simp; done) | (simp; omega) | omega))))
        replace Ho4a := Lib.hid (Ho4a.out.kp (kp_of_below hb (by (first | (simp; done) | (simp; omega) | omega))))
        replace Ho5 := Lib.hid (Ho5.out.kp (kp_of_below hb (by (first | (simp; done) | (simp; omega) | omega))))
        replace HB := Lib.hid (bl_step hb HB.out.size HB.out)
        replace qt2 := Qt2.2
        replace pt2 := Qt2.1
        replace lt2 := Nat.le_of_lt Qt2.1
        replace qt3 := Qt3.2
        replace pt3 := Qt3.1
        replace lt3 := Nat.le_of_lt Qt3.1
        replace qt6 := Qt6.2
        replace pt6 := Qt6.1
        replace lt6 := Nat.le_of_lt Qt6.1
        replace qt8 := Qt8.2
        replace pt8 := Qt8.1
        replace lt8 := Nat.le_of_lt Qt8.1
        replace qt9 := Qt9.2
        replace pt9 := Qt9.1
        replace lt9 := Nat.le_of_lt Qt9.1
        have qt14 := Qt14.2
        have pt14 := Qt14.1
        have lt14 := Nat.le_of_lt Qt14.1
        simp only [World.size_alloc, World.size_drew] at hs
        have Ho6 : Hid (Sp twoO v17 (v16.heap.size + 1) (v17.heap.size) (d, e) [.slice p61 d.1.length p6k1, .slice p62 d.2.length p6k2, .slice p63 e.1.length p6k3, .slice p64 e.2.length p6k4]) := hs
        clear hs
        have hS2 := bl_step hb hS.size hS
        refine hK.out _ _ (hS2) ?_
        try simp only [Act.put, List.setIfInBounds_toArray, List.set_cons_zero, List.set_cons_succ]
        clear hK K hS
        clear hS2 hb
        refine restK_alone 3 rfl (by kernel_rfl) (by rfl) (fun hS K hK => ?_)
        go_wp2_with fail
        refine (c_laws_toEntry i t c s k a b x y _).mono ?_
        rintro e9 v18 ⟨rfl, hb⟩
        have hz10 := hb.size
        replace Qt2 := Qt2.below hb
        replace Qt3 := Qt3.below hb
        replace Qt6 := Qt6.below hb
        replace Qt8 := Qt8.below hb
        replace Qt9 := Qt9.below hb
        replace Qt14 := Qt14.below hb
        replace FB := FB.below hb
        replace Ho2a := Lib.hid (Ho2a.out.kp (kp_of_below hb (by (first | (simp; done) | (simp; omega) | omega))))
        replace Ho3 := Lib.hid (Ho3.out.kp (kp_of_below hb (by (first | (simp; done) | (simp; omega) | omega))))
        replace Ho4a := Lib.hid (Ho4a.out.kp (kp_of_below hb (by (first | (simp; done) | (simp; omega) | omega))))
        replace Ho5 := Lib.hid (Ho5.out.kp (kp_of_below hb (by (first | (simp; done) | (simp; omega) | omega))))
        replace Ho6 := Lib.hid (Ho6.out.kp (kp_of_below hb (by (first | (simp; done) | (simp; omega) | omega))))
        replace HB := Lib.hid (bl_step hb HB.out.size HB.out)
        replace qt2 := Qt2.2
        replace pt2 := Qt2.1
        replace lt2 := Nat.le_of_lt Qt2.1
        replace qt3 := Qt3.2
        replace pt3 := Qt3.1
        replace lt3 := Nat.le_of_lt Qt3.1
        replace qt6 := Qt6.2
        replace pt6 := Qt6.1
        replace lt6 := Nat.le_of_lt Qt6.1
        replace qt8 := Qt8.2
        replace pt8 := Qt8.1
        replace lt8 := Nat.le_of_lt Qt8.1
        replace qt9 := Qt9.2
        replace pt9 := Qt9.1
        replace lt9 := Nat.le_of_lt Qt9.1
        replace qt14 := Qt14.2
        replace pt14 := Qt14.1
        replace lt14 := Nat.le_of_lt Qt14.1
        have hS2 := bl_step hb hS.size hS
        refine hK.out _ _ (hS2) ?_
        try simp only [Act.put, List.setIfInBounds_toArray, List.set_cons_zero, List.set_cons_succ]
        clear hK K hS
        clear hS2 hb
        refine restK_alone 4 rfl (by kernel_rfl) (by rfl) (fun hS K hK => ?_)
        go_wp2_with fail
        refine (KI.out p61 p62 p63 p64 p6k1 p6k2 p6k3 p6k4 _ (Ho6.out).two.1 (Ho6.out).two.2).mono ?_
        rintro e9 v19 ⟨p7a1, p7ak1, p7a2, p7ak2, p7a3, p7ak3, p7a4, p7ak4, rfl, hs, hb⟩
        have hz11 := hb.size
        replace Qt2 := Qt2.below hb
        replace Qt3 := Qt3.below hb
        replace Qt6 := Qt6.below hb
        replace Qt8 := Qt8.below hb
        replace Qt9 := Qt9.below hb
        replace Qt14 := Qt14.below hb
        replace FB := FB.below hb
        replace Ho2a := Lib.hid (Ho2a.out.kp (kp_of_below hb (by (first | (simp; done) | (simp; omega) | omega))))
        replace Ho3 := Lib.hid (Ho3.out.kp (kp_of_below hb (by (first | (simp; done) | (simp; omega) | omega))))
        replace Ho4a := Lib.hid (Ho4a.out.kp (kp_of_below hb (by (first | (simp; done) | (simp; omega) | omega))))
        replace Ho5 := Lib.hid (Ho5.out.kp (kp_of_below hb (by (first | (simp; done) | (simp; omega) | omega))))
        replace Ho6 := Lib.hid (Ho6.out.kp (kp_of_below hb (by (first | (simp; done) | (simp; omega) | omega))))
        replace HB := Lib.hid (bl_step hb HB.out.size HB.out)
        replace qt2 := Qt2.2
        replace pt2 := Qt2.1
        replace lt2 := Nat.le_of_lt Qt2.1
        replace qt3 := Qt3.2
        replace pt3 := Qt3.1
        replace lt3 := Nat.le_of_lt Qt3.1
        replace qt6 := Qt6.2
        replace pt6 := Qt6.1
        replace lt6 := Nat.le_of_lt Qt6.1
        replace qt8 := Qt8.2
        replace pt8 := Qt8.1
        replace lt8 := Nat.le_of_lt Qt8.1
        replace qt9 := Qt9.2
        replace pt9 := Qt9.1
        replace lt9 := Nat.le_of_lt Qt9.1
        replace qt14 := Qt14.2
        replace pt14 := Qt14.1
        replace lt14 := Nat.le_of_lt Qt14.1
        dsimp only at hs
        have Ho7a : Hid (Sp twoO v19 (v18.heap.size) (v19.heap.size) (X, Y) [.slice p7a1 X.1.length p7ak1, .slice p7a2 X.2.length p7ak2, .slice p7a3 Y.1.length p7ak3, .slice p7a4 Y.2.length p7ak4]) := hs
        clear hs
        have hS2 := bl_step hb hS.size hS
        refine hK.out _ _ hS2 ?_
        clear hK K hS
        clear hS2 hb
        refine restK_pure (v := ?_) 5 rfl (by kernel_rfl) (by kernel_rfl) (by kernel_rfl) (by kernel_rfl) (fun _ _ _ h => h) (by rfl) ?_ ?_
        rotate_left
        · intro w9; go_simp; try with_reducible rfl
        try simp only [Act.put, List.setIfInBounds_toArray, List.set_cons_zero, List.set_cons_succ]
        refine restK_pure (v := ?_) 6 rfl (by kernel_rfl) (by kernel_rfl) (by kernel_rfl) (by kernel_rfl) (fun _ _ _ h => h) (by rfl) ?_ ?_
        rotate_left
        · intro w9; go_simp; try with_reducible rfl
        try simp only [Act.put, List.setIfInBounds_toArray, List.set_cons_zero, List.set_cons_succ]
        refine restK_pure (v := ?_) 7 rfl (by kernel_rfl) (by kernel_rfl) (by kernel_rfl) (by kernel_rfl) (fun _ _ _ h => h) (by rfl) ?_ ?_
        rotate_left
        · intro w9; go_simp; try with_reducible rfl
        try simp only [Act.put, List.setIfInBounds_toArray, List.set_cons_zero, List.set_cons_succ]
        refine restK_break 9 rfl (by kernel_rfl) (by rfl) (by kernel_rfl) (fun hS K hK => ?_)
        have fB9 := FB.2
        have hz9 := Qt14.1
        (try simp only [World.size_alloc, World.size_drew] at hz9)
        go_wp2_with fail
        clear fB9
        replace Qt2 := Qt2.setOther ⟨v16.heap.size, 0, none⟩ (.slice p7a1 X.1.length p7ak1) (by (first | (simp; done) | (simp; omega) | omega))
        replace Qt3 := Qt3.setOther ⟨v16.heap.size, 0, none⟩ (.slice p7a1 X.1.length p7ak1) (by (first | (simp; done) | (simp; omega) | omega))
        replace Qt6 := Qt6.setOther ⟨v16.heap.size, 0, none⟩ (.slice p7a1 X.1.length p7ak1) (by (first | (simp; done) | (simp; omega) | omega))
        replace Qt8 := Qt8.setOther ⟨v16.heap.size, 0, none⟩ (.slice p7a1 X.1.length p7ak1) (by (first | (simp; done) | (simp; omega) | omega))
        replace Qt9 := Qt9.setOther ⟨v16.heap.size, 0, none⟩ (.slice p7a1 X.1.length p7ak1) (by (first | (simp; done) | (simp; omega) | omega))
        replace Qt14 := Qt14.set 0 (.slice p7a1 X.1.length p7ak1) (by simp)
        replace Ho2a := Lib.hid (Ho2a.out.kp (kp_set (p := ⟨v16.heap.size, 0, none⟩) (u := .slice p7a1 X.1.length p7ak1) (by (first | (simp; done) | (simp; omega) | omega)) kp_refl))
        replace Ho3 := Lib.hid (Ho3.out.kp (kp_set (p := ⟨v16.heap.size, 0, none⟩) (u := .slice p7a1 X.1.length p7ak1) (by (first | (simp; done) | (simp; omega) | omega)) kp_refl))
        replace Ho4a := Lib.hid (Ho4a.out.kp (kp_set (p := ⟨v16.heap.size, 0, none⟩) (u := .slice p7a1 X.1.length p7ak1) (by (first | (simp; done) | (simp; omega) | omega)) kp_refl))
        replace Ho5 := Lib.hid (Ho5.out.kp (kp_set (p := ⟨v16.heap.size, 0, none⟩) (u := .slice p7a1 X.1.length p7ak1) (by (first | (simp; done) | (simp; omega) | omega)) kp_refl))
        replace Ho6 := Lib.hid (Ho6.out.kp (kp_set (p := ⟨v16.heap.size, 0, none⟩) (u := .slice p7a1 X.1.length p7ak1) (by (first | (simp; done) | (simp; omega) | omega)) kp_refl))
        replace Ho7a := Lib.hid (Ho7a.out.kp (kp_set (p := ⟨v16.heap.size, 0, none⟩) (u := .slice p7a1 X.1.length p7ak1) (by (first | (simp; done) | (simp; omega) | omega)) kp_refl))
        replace HB := Lib.hid (HB.out.setCell (p := ⟨v16.heap.size, 0, none⟩) (by have := HB.out.size; (first | (simp; done) | (simp; omega) | omega)) (.slice p7a1 X.1.length p7ak1))
        replace Qt2 := Qt2.setOther ⟨v16.heap.size, 1, none⟩ (.slice p7a2 X.2.length p7ak2) (by (first | (simp; done) | (simp; omega) | omega))
        replace Qt3 := Qt3.setOther ⟨v16.heap.size, 1, none⟩ (.slice p7a2 X.2.length p7ak2) (by (first | (simp; done) | (simp; omega) | omega))
        replace Qt6 := Qt6.setOther ⟨v16.heap.size, 1, none⟩ (.slice p7a2 X.2.length p7ak2) (by (first | (simp; done) | (simp; omega) | omega))
        replace Qt8 := Qt8.setOther ⟨v16.heap.size, 1, none⟩ (.slice p7a2 X.2.length p7ak2) (by (first | (simp; done) | (simp; omega) | omega))
        replace Qt9 := Qt9.setOther ⟨v16.heap.size, 1, none⟩ (.slice p7a2 X.2.length p7ak2) (by (first | (simp; done) | (simp; omega) | omega))
        replace Qt14 := Qt14.set 1 (.slice p7a2 X.2.length p7ak2) (by simp)
        replace Ho2a := Lib.hid (Ho2a.out.kp (kp_set (p := ⟨v16.heap.size, 1, none⟩) (u := .slice p7a2 X.2.length p7ak2) (by (first | (simp; done) | (simp; omega) | omega)) kp_refl))
        replace Ho3 := Lib.hid (Ho3.out.kp (kp_set (p := ⟨v16.heap.size, 1, none⟩) (u := .slice p7a2 X.2.length p7ak2) (by (first | (simp; done) | (simp; omega) | omega)) kp_refl))
        replace Ho4a := Lib.hid (Ho4a.out.kp (kp_set (p := ⟨v16.heap.size, 1, none⟩) (u := .slice p7a2 X.2.length p7ak2) (by (first | (simp; done) | (simp; omega) | omega)) kp_refl))
        replace Ho5 := Lib.hid (Ho5.out.kp (kp_set (p := ⟨v16.heap.size, 1, none⟩) (u := .slice p7a2 X.2.length p7ak2) (by (first | (simp; done) | (simp; omega) | omega)) kp_refl))
        replace Ho6 := Lib.hid (Ho6.out.kp (kp_set (p := ⟨v16.heap.size, 1, none⟩) (u := .slice p7a2 X.2.length p7ak2) (by (first | (simp; done) | (simp; omega) | omega)) kp_refl))
        replace Ho7a := Lib.hid (Ho7a.out.kp (kp_set (p := ⟨v16.heap.size, 1, none⟩) (u := .slice p7a2 X.2.length p7ak2) (by (first | (simp; done) | (simp; omega) | omega)) kp_refl))
        replace HB := Lib.hid (HB.out.setCell (p := ⟨v16.heap.size, 1, none⟩) (by have := HB.out.size; (first | (simp; done) | (simp; omega) | omega)) (.slice p7a2 X.2.length p7ak2))
        replace Qt2 := Qt2.setOther ⟨v16.heap.size, 2, none⟩ (.slice p7a3 Y.1.length p7ak3) (by (first | (simp; done) | (simp; omega) | omega))
        replace Qt3 := Qt3.setOther ⟨v16.heap.size, 2, none⟩ (.slice p7a3 Y.1.length p7ak3) (by (first | (simp; done) | (simp; omega) | omega))
        replace Qt6 := Qt6.setOther ⟨v16.heap.size, 2, none⟩ (.slice p7a3 Y.1.length p7ak3) (by (first | (simp; done) | (simp; omega) | omega))
        replace Qt8 := Qt8.setOther ⟨v16.heap.size, 2, none⟩ (.slice p7a3 Y.1.length p7ak3) (by (first | (simp; done) | (simp; omega) | omega))
        replace Qt9 := Qt9.setOther ⟨v16.heap.size, 2, none⟩ (.slice p7a3 Y.1.length p7ak3) (by (first | (simp; done) | (simp; omega) | omega))
        replace Qt14 := Qt14.set 2 (.slice p7a3 Y.1.length p7ak3) (by simp)
        replace Ho2a := Lib.hid (Ho2a.out.kp (kp_set (p := ⟨v16.heap.size, 2, none⟩) (u := .slice p7a3 Y.1.length p7ak3) (by (first | (simp; done) | (simp; omega) | omega)) kp_refl))
        replace Ho3 := Lib.hid (Ho3.out.kp (kp_set (p := ⟨v16.heap.size, 2, none⟩) (u := .slice p7a3 Y.1.length p7ak3) (by (first | (simp; done) | (simp; omega) | omega)) kp_refl))
        replace Ho4a := Lib.hid (Ho4a.out.kp (kp_set (p := ⟨v16.heap.size, 2, none⟩) (u := .slice p7a3 Y.1.length p7ak3) (by (first | (simp; done) | (simp; omega) | omega)) kp_refl))
        replace Ho5 := Lib.hid (Ho5.out.kp (kp_set (p := ⟨v16.heap.size, 2, none⟩) (u := .slice p7a3 Y.1.length p7ak3) (by (first | (simp; done) | (simp; omega) | omega)) kp_refl))
        replace Ho6 := Lib.hid (Ho6.out.kp (kp_set (p := ⟨v16.heap.size, 2, none⟩) (u := .slice p7a3 Y.1.length p7ak3) (by (first | (simp; done) | (simp; omega) | omega)) kp_refl))
        replace Ho7a := Lib.hid (Ho7a.out.kp (kp_set (p := ⟨v16.heap.size, 2, none⟩) (u := .slice p7a3 Y.1.length p7ak3) (by (first | (simp; done) | (simp; omega) | omega)) kp_refl))
        replace HB := Lib.hid (HB.out.setCell (p := ⟨v16.heap.size, 2, none⟩) (by have := HB.out.size; (first | (simp; done) | (simp; omega) | omega)) (.slice p7a3 Y.1.length p7ak3))
        replace Qt2 := Qt2.setOther ⟨v16.heap.size, 3, none⟩ (.slice p7a4 Y.2.length p7ak4) (by (first | (simp; done) | (simp; omega) | omega))
        replace Qt3 := Qt3.setOther ⟨v16.heap.size, 3, none⟩ (.slice p7a4 Y.2.length p7ak4) (by (first | (simp; done) | (simp; omega) | omega))
        replace Qt6 := Qt6.setOther ⟨v16.heap.size, 3, none⟩ (.slice p7a4 Y.2.length p7ak4) (by (first | (simp; done) | (simp; omega) | omega))
        replace Qt8 := Qt8.setOther ⟨v16.heap.size, 3, none⟩ (.slice p7a4 Y.2.length p7ak4) (by (first | (simp; done) | (simp; omega) | omega))
        replace Qt9 := Qt9.setOther ⟨v16.heap.size, 3, none⟩ (.slice p7a4 Y.2.length p7ak4) (by (first | (simp; done) | (simp; omega) | omega))
        replace Qt14 := Qt14.set 3 (.slice p7a4 Y.2.length p7ak4) (by simp)
        replace Ho2a := Lib.hid (Ho2a.out.kp (kp_set (p := ⟨v16.heap.size, 3, none⟩) (u := .slice p7a4 Y.2.length p7ak4) (by (first | (simp; done) | (simp; omega) | omega)) kp_refl))
        replace Ho3 := Lib.hid (Ho3.out.kp (kp_set (p := ⟨v16.heap.size, 3, none⟩) (u := .slice p7a4 Y.2.length p7ak4) (by (first | (simp; done) | (simp; omega) | omega)) kp_refl))
        replace Ho4a := Lib.hid (Ho4a.out.kp (kp_set (p := ⟨v16.heap.size, 3, none⟩) (u := .slice p7a4 Y.2.length p7ak4) (by (first | (simp; done) | (simp; omega) | omega)) kp_refl))
        replace Ho5 := Lib.hid (Ho5.out.kp (kp_set (p := ⟨v16.heap.size, 3, none⟩) (u := .slice p7a4 Y.2.length p7ak4) (by (first | (simp; done) | (simp; omega) | omega)) kp_refl))
        replace Ho6 := Lib.hid (Ho6.out.kp (kp_set (p := ⟨v16.heap.size, 3, none⟩) (u := .slice p7a4 Y.2.length p7ak4) (by (first | (simp; done) | (simp; omega) | omega)) kp_refl))
        replace Ho7a := Lib.hid (Ho7a.out.kp (kp_set (p := ⟨v16.heap.size, 3, none⟩) (u := .slice p7a4 Y.2.length p7ak4) (by (first | (simp; done) | (simp; omega) | omega)) kp_refl))
        replace HB := Lib.hid (HB.out.setCell (p := ⟨v16.heap.size, 3, none⟩) (by have := HB.out.size; (first | (simp; done) | (simp; omega) | omega)) (.slice p7a4 Y.2.length p7ak4))
        simp only [List.set_cons_succ, List.set_cons_zero] at Qt14
        refine hK.out _ _ trivial ?_
        clear hK K hS
        refine rest_take (v := ?_) 10 rfl (by kernel_rfl) (by kernel_rfl) (by kernel_rfl) (fun _ _ _ h => h) (by rfl) ?_ ?_
        rotate_left
        · intro w9; go_simp; try with_reducible rfl
        try simp only [Act.put, List.setIfInBounds_toArray, List.set_cons_zero, List.set_cons_succ]
        refine rest_done (by kernel_rfl) ?_
        go_wp2_with fail
        go_meet
        exact ⟨v16.heap.size, p7a1, p7ak1, p7a2, p7ak2, p7a3, p7ak3, p7a4, p7ak4, v18.heap.size, v19.heap.size, rfl, rfl, Qt14, Qt2, Qt3, Qt6, Qt8, Qt9, Ho2a, Ho3, Ho4a, Ho5, Ho7a, by (first | (simp; done) | (simp; omega) | omega), by (first | (simp; done) | (simp; omega) | omega), by (first | (simp; done) | (simp; omega) | omega), by (first | (simp; done) | (simp; omega) | omega), by (first | (simp; done) | (simp; omega) | omega), by have := hz9; (first | (simp; done) | (simp; omega) | omega), HB⟩
    clear Qt2 qt2 pt2 lt2 Qt3 qt3 pt3 lt3 Qt6 qt6 pt6 lt6 Qt8 qt8 pt8 lt8 Qt9 qt9 pt9 lt9 Ho2a Ho3 Ho4a Ho5 HB
    obtain ⟨B14, p7a1, p7ak1, p7a2, p7ak2, p7a3, p7ak3, p7a4, p7ak4, loo7a, hio7a, rfl, rfl, Qt14, Qt2, Qt3, Qt6, Qt8, Qt9, Ho2a, Ho3, Ho4a, Ho5, Ho7a, hy2, hlo7a, hmo7a, hho7a, hdo7a, hw2, HB⟩ := hcut
    obtain ⟨v20, HV⟩ : ∃ V, Hid (V = wc) := ⟨wc, Lib.hid rfl⟩
    have eV := HV.out
    subst eV
    clear HV
    have hxt14 := Qt14.1
    have qt2 := Qt2.2
    have pt2 := Qt2.1
    have lt2 := Nat.le_of_lt Qt2.1
    have qt3 := Qt3.2
    have pt3 := Qt3.1
    have lt3 := Nat.le_of_lt Qt3.1
    have qt6 := Qt6.2
    have pt6 := Qt6.1
    have lt6 := Nat.le_of_lt Qt6.1
    have qt8 := Qt8.2
    have pt8 := Qt8.1
    have lt8 := Nat.le_of_lt Qt8.1
    have qt9 := Qt9.2
    have pt9 := Qt9.1
    have lt9 := Nat.le_of_lt Qt9.1
    have qt14 := Qt14.2
    have pt14 := Qt14.1
    have lt14 := Nat.le_of_lt Qt14.1
    go_wp2_with fail
    refine (c_eqTwo_o Ho7a.out Ho2a.out).mono ?_
    rintro e9 v21 ⟨rfl, hb⟩
    have hz9 := hb.size
    replace Qt2 := Qt2.below hb
    replace Qt3 := Qt3.below hb
    replace Qt6 := Qt6.below hb
    replace Qt8 := Qt8.below hb
    replace Qt9 := Qt9.below hb
    replace Qt14 := Qt14.below hb
    replace Ho2a := Lib.hid (Ho2a.out.kp (kp_of_below hb (by (first | (simp; done) | (simp; omega) | omega))))
    replace Ho3 := Lib.hid (Ho3.out.kp (kp_of_below hb (by (first | (simp; done) | (simp; omega) | omega))))
    replace Ho4a := Lib.hid (Ho4a.out.kp (kp_of_below hb (by (first | (simp; done) | (simp; omega) | omega))))
    replace Ho5 := Lib.hid (Ho5.out.kp (kp_of_below hb (by (first | (simp; done) | (simp; omega) | omega))))
    replace Ho7a := Lib.hid (Ho7a.out.kp (kp_of_below hb (by (first | (simp; done) | (simp; omega) | omega))))
    replace HB := Lib.hid (bl_step hb HB.out.size HB.out)
    replace qt2 := Qt2.2
    replace pt2 := Qt2.1
    replace lt2 := Nat.le_of_lt Qt2.1
    replace qt3 := Qt3.2
    replace pt3 := Qt3.1
    replace lt3 := Nat.le_of_lt Qt3.1
    replace qt6 := Qt6.2
    replace pt6 := Qt6.1
    replace lt6 := Nat.le_of_lt Qt6.1
    replace qt8 := Qt8.2
    replace pt8 := Qt8.1
    replace lt8 := Nat.le_of_lt Qt8.1
    replace qt9 := Qt9.2
    replace pt9 := Qt9.1
    replace lt9 := Nat.le_of_lt Qt9.1
    replace qt14 := Qt14.2
    replace pt14 := Qt14.1
    replace lt14 := Nat.le_of_lt Qt14.1
    clear hb
    go_wp2_with fail
    refine (c_heldTwo_o (k := 1) Ho4a.out (by omega) (by have := hN_XY; rw [Hn_XY.out]; omega) ⟨HSX.out.1, HSY.out.1⟩).mono ?_
    rw [Hn_XY.out]
    rintro e9 v22 ⟨rfl, hb⟩
    have hz10 := hb.size
    replace Qt2 := Qt2.below hb
    replace Qt3 := Qt3.below hb
    replace Qt6 := Qt6.below hb
    replace Qt8 := Qt8.below hb
    replace Qt9 := Qt9.below hb
    replace Qt14 := Qt14.below hb
    replace Ho2a := Lib.hid (Ho2a.out.kp (kp_of_below hb (by (first | (simp; done) | (simp; omega) | omega))))
    replace Ho3 := Lib.hid (Ho3.out.kp (kp_of_below hb (by (first | (simp; done) | (simp; omega) | omega))))
    replace Ho4a := Lib.hid (Ho4a.out.kp (kp_of_below hb (by (first | (simp; done) | (simp; omega) | omega))))
    replace Ho5 := Lib.hid (Ho5.out.kp (kp_of_below hb (by (first | (simp; done) | (simp; omega) | omega))))
    replace Ho7a := Lib.hid (Ho7a.out.kp (kp_of_below hb (by (first | (simp; done) | (simp; omega) | omega))))
    replace HB := Lib.hid (bl_step hb HB.out.size HB.out)
    replace qt2 := Qt2.2
    replace pt2 := Qt2.1
    replace lt2 := Nat.le_of_lt Qt2.1
    replace qt3 := Qt3.2
    replace pt3 := Qt3.1
    replace lt3 := Nat.le_of_lt Qt3.1
    replace qt6 := Qt6.2
    replace pt6 := Qt6.1
    replace lt6 := Nat.le_of_lt Qt6.1
    replace qt8 := Qt8.2
    replace pt8 := Qt8.1
    replace lt8 := Nat.le_of_lt Qt8.1
    replace qt9 := Qt9.2
    replace pt9 := Qt9.1
    replace lt9 := Nat.le_of_lt Qt9.1
    replace qt14 := Qt14.2
    replace pt14 := Qt14.1
    replace lt14 := Nat.le_of_lt Qt14.1
    clear hb
    go_wp2_with fail
    go_ret
    exact ⟨by simp, HB.out⟩

end Go.Proofs.Ytmjafclpeknpcaa
/- A pair of disks as an argument: opened. -/
namespace Go.Proofs.Ytmjafclpeknpcaa
open Go.ChangeShapes Go.WideShapes Go.ChangeAt Go.RowKit Go.Deep
section
variable {H : Type} {enc : TypeId × Value → H} {P : Program} {w : World} {base : Nat} {spare : Nat → Bool} {held : Bool}
theorem open_rowsv {tR tI : TypeId} {v : Value} (f1 : flat P 5 tR = some [.slice tI]) (c1 : P.cellsOf tR = 1) (f2 : flat P 5 tI = some [.int]) (c2 : P.cellsOf tI = 1) (h : ClOk enc P w base spare held (.slice tR) v) :
    ∃ (ao : Option Addr) (cap : Nat) (K : List (List Int)), v = .slice ao K.length cap ∧ RowsR w ao K := by
  obtain ⟨K, hK⟩ := rd_list intsN c1 (opens_slice numE f1 c2 (opens_num f2)) h
  obtain ⟨ao, cap, rfl, hr, _⟩ := rd_rows hK
  exact ⟨ao, cap, K, rfl, hr⟩
theorem open_writesv {tW tI : TypeId} {v : Value} (f1 : flat P 5 tW = some [.int, .slice tI]) (c1 : P.cellsOf tW = 2) (f2 : flat P 5 tI = some [.int]) (c2 : P.cellsOf tI = 1) (h : ClOk enc P w base spare held (.slice tW) v) :
    ∃ (ao : Option Addr) (cap : Nat) (K : List (Int × List Int)), v = .slice ao K.length cap ∧ WritesR w ao K := by
  obtain ⟨K, hK⟩ := rd_list writeN c1 (opens_numslice numE f1 c2 (opens_num f2)) h
  obtain ⟨ao, cap, rfl, hr, _⟩ := rd_writes hK
  exact ⟨ao, cap, K, rfl, hr⟩
end
end Go.Proofs.Ytmjafclpeknpcaa
/- Three facts about the whole program that every statement's card asks for, shown once: no function of it may run on entry, what its interfaces lift, and how it was made. No condition. -/
namespace Go.Proofs.Ytmjafclpeknpcaa
open Go

/-- a row of signs by their numbers -/
def signs (l : List Nat) : List Char := l.map Char.ofNat
def sp : Char := Char.ofNat 32
def wHarness : List Char := signs [104, 97, 114, 110, 101, 115, 115]
def wSum : List Char := signs [52, 102, 100, 102, 101, 55, 55, 56, 98, 57, 101, 57, 55, 49, 55, 52, 101, 56, 97, 57, 97, 56, 52, 49, 49, 57, 97, 48, 102, 99, 49, 56, 51, 101, 54, 54, 57, 51, 51, 102, 55, 101, 55, 53, 56, 99, 98, 50, 51, 52, 48, 50, 55, 102, 57, 98, 48, 98, 101, 100, 100, 101, 52, 51]
def wCut : List Char := signs [99, 117, 116]
theorem words_space : ∀ (a r : List Char), a.all (· != sp) = true → wordsSigns (a ++ sp :: r) = a :: wordsSigns r
  | [], r, _ => rfl
  | c :: a, r, h => by
    simp only [List.all_cons, Bool.and_eq_true, bne_iff_ne, ne_eq] at h
    have hw := words_space a r h.2
    show wordsSigns (c :: (a ++ sp :: r)) = _
    rw [wordsSigns]
    · rw [hw]
    · exact h.1
theorem behind {s : List Char} {X : List (List Char)} (hs : isSumSigns s = true) : behindMainWord (wHarness :: s :: wCut :: X) = wCut :: X := by
  have h1 : (wHarness == "harness".toList) = true := by kernel_rfl
  simp only [behindMainWord, hs, h1, Bool.true_or, Bool.and_self, if_true]
theorem strip_cut (X : List (List Char)) : stripLifts liftWords (wCut :: X) = ([], wCut :: X) := by kernel_rfl
theorem make_of {P : Program} {s : List Char} {X : List (List Char)} (h : wordsSigns P.initOrder.toList = wHarness :: s :: wCut :: X) (hs : isSumSigns s = true) : P.make = some .cut := by
  unfold Program.make
  rw [h, behind hs]
  kernel_rfl
theorem lifts_of {P : Program} {s : List Char} {X : List (List Char)} (h : wordsSigns P.initOrder.toList = wHarness :: s :: wCut :: X) (hs : isSumSigns s = true) : P.liftsFinal = false := by
  unfold Program.liftsFinal Program.headLifts
  rw [h, behind hs, strip_cut]
  kernel_rfl
theorem enter_of {P : Program} {s : List Char} {X : List (List Char)} (h : wordsSigns P.initOrder.toList = wHarness :: s :: wCut :: X) (hs : isSumSigns s = true) (h1 : P.laysLater = false) (h2 : P.bearsReflect = false) (h3 : P.doorFits [] = true) : P.mayEnter = true := by
  unfold Program.mayEnter
  rw [h, behind hs]
  simp only [strip_cut, h1, h2, h3]
  kernel_rfl
set_option maxRecDepth 100000 in
/-- the head's words: the string's end is of no account -/
theorem head_chars : ∃ r : List Char, Try.pinned.checked.prog.initOrder.toList = wHarness ++ sp :: (wSum ++ sp :: (wCut ++ sp :: r)) := by
  have h : Try.pinned.checked.prog.initOrder = "harness 4fdfe778b9e97174e8a9a84119a0fc183e66933f7e758cb234027f9b0bedde43 cut at loop.example/g00851/laws.FnExactKeptEntry loop.example/g00851/laws.FnExactSameLog loop.example/g00851/laws.FnExactHeadIn loop.example/g00851/laws.FnExactKeptHead" := by kernel_rfl
  rw [h]
  exact ⟨_, String.toList_ofList.trans rfl⟩
theorem head_words : ∃ X : List (List Char), wordsSigns Try.pinned.checked.prog.initOrder.toList = wHarness :: wSum :: wCut :: X := by
  obtain ⟨r, h⟩ := head_chars
  refine ⟨wordsSigns r, ?_⟩
  rw [h, words_space _ _ (by decide), words_space _ _ (by decide), words_space _ _ (by decide)]
theorem fact_enter : Try.pinned.checked.prog.mayEnter = true := by
  obtain ⟨X, h⟩ := head_words
  exact enter_of h (by kernel_rfl) (by kernel_rfl) (by kernel_rfl) (by kernel_rfl)
theorem fact_lifts : (Rows.fnExactKeptEntryRow.lifted == Try.pinned.checked.prog.liftsFinal) = true := by
  obtain ⟨X, h⟩ := head_words
  rw [lifts_of h (by kernel_rfl)]
  kernel_rfl
theorem fact_make : (Try.pinned.checked.prog.make == some Rows.fnExactKeptEntryRow.make) = true := by
  obtain ⟨X, h⟩ := head_words
  rw [make_of h (by kernel_rfl)]
  kernel_rfl
end Go.Proofs.Ytmjafclpeknpcaa
