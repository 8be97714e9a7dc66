/- Texts of the proof, merged: part 5. -/
import Derived.Test.YtmjafclpeknpcaaKhD
import Derived.WalkKit
import Derived.WalkSpells
import Derived.Deep.QuietTactic
import Derived.BigQuiet
import Derived.Deep.Light
import Derived.Lib.Hide
import Derived.IntWalk
import Derived.Test.YtmjafclpeknpcaaOpenN
import Derived.Test.YtmjafclpeknpcaaNTo
/- Walks of functions of the program, printed by a program of the prover. -/
namespace Go.Proofs.Ytmjafclpeknpcaa
open Go.ChangeShapes Go.WideShapes Go.ChangeAt Go.RowKit Go.Deep
set_option maxHeartbeats 6400000
set_option maxRecDepth 100000
theorem keptHead_small {d e : DiskT} {num base time : Int} {l : List MarkT} (h1 : Small d) (h2 : Small e) : Small (keptHeadF d e num base time l).1.1 ∧ Small (keptHeadF d e num base time l).1.2 := by
  have hz : Small ([], []) := small_of (by simp) (by simp) (by simp) (by simp)
  have key : ∀ o, Small (keptRowF d e (num % 2) o).1.1 ∧ Small (keptRowF d e (num % 2) o).1.2 := fun o => by
    cases hK : keptOk d e
    · rw [keptRowF_z o hK]; exact ⟨hz, hz⟩
    · cases o with
      | none => rw [keptRowF_none hK]; exact ⟨h1, h2⟩
      | some r =>
        rw [keptRowF_some hK]
        cases hC : bothC d e (num % 2) r
        · rw [bothWroteF_n hC]; exact ⟨h1, h2⟩
        · rw [bothWroteF_y hC]
          obtain ⟨o1, o2⟩ := twoOk_1 (keptOk_t hK)
          unfold bothC canWrite at hC
          simp only [Bool.and_eq_true, decide_eq_true_eq] at hC
          obtain ⟨s1, s2, s3, s4⟩ := diskOk_small o1
          obtain ⟨r1, r2, r3, r4⟩ := diskOk_small o2
          have hl := withSum_len r
          refine ⟨small_of s1 s2 (by simp; omega) (fun z hz => ?_), small_of r1 r2 (by simp; omega) (fun z hz => ?_)⟩
          · rcases List.mem_append.1 hz with hz | hz
            · exact s4 z hz
            · rw [List.mem_singleton.1 hz]; exact hl
          · rcases List.mem_append.1 hz with hz | hz
            · exact r4 z hz
            · rw [List.mem_singleton.1 hz]; exact hl
  exact key _
theorem c_law_KeptHead (a1 a2 a3 a4 : Option Addr) (ak1 ak2 ak3 ak4 : Nat) (d e : DiskT) (num base time : Int) (m1 : Option Addr) (mk1 : Nat) (l : List MarkT) (w : World) (h : DiskR w a1 a2 d) (h2 : DiskR w a3 a4 e) (hm : ReadA markE w m1 l) :
    Calls Try.prog 6 #[.agg #[.slice a1 d.1.length ak1, .slice a2 d.2.length ak2, .slice a3 e.1.length ak3, .slice a4 e.2.length ak4], .agg #[.int .i64 num, .int .i64 base, .int .i64 time, .slice m1 l.length mk1]] w fun en w' => en = .returned (.bool true) ∧ Below w.heap.size w w' := by
  have HD : Hid (∀ V, Below w.heap.size w V → DiskR V a1 a2 d) := fun V hb => h.below hb
  have HE : Hid (∀ V, Below w.heap.size w V → DiskR V a3 a4 e) := fun V hb => h2.below hb
  have HMh : Hid (∀ V, Below w.heap.size w V → ReadA markE V m1 l) := fun V hb => hm.below hb
  have hlm := hm.2.1
  clear h h2 hm
  by_cases hbig : (1048576 : Int) - (szD d + szD e : Nat) < 0
  · have hszn := hbig
    clear hbig
    go_enter Try.func6, Try.ntmps6
    have HB : Hid (Below w.heap.size w w) := Lib.hid (Below.refl _ _)
    have Qt2 := Bx.new w [.slice a1 d.1.length ak1, .slice a2 d.2.length ak2, .slice a3 e.1.length ak3, .slice a4 e.2.length ak4] 27
    replace HB := Lib.hid (HB.out.alloc (by (first | (simp; done) | (simp; omega) | omega)) (.cells ([.slice a1 d.1.length ak1, .slice a2 d.2.length ak2, .slice a3 e.1.length ak3, .slice a4 e.2.length ak4] : List Value).toArray 27))
    replace Qt2 := Qt2.alloc (.cells ([.int .i64 num, .int .i64 base, .int .i64 time, .slice m1 l.length mk1] : List Value).toArray 50)
    have Qt3 := Bx.new (w.alloc (.cells ([.slice a1 d.1.length ak1, .slice a2 d.2.length ak2, .slice a3 e.1.length ak3, .slice a4 e.2.length ak4] : List Value).toArray 27)) [.int .i64 num, .int .i64 base, .int .i64 time, .slice m1 l.length mk1] 50
    simp only [World.size_alloc] at Qt3
    replace HB := Lib.hid (HB.out.alloc (by (first | (simp; done) | (simp; omega) | omega)) (.cells ([.int .i64 num, .int .i64 base, .int .i64 time, .slice m1 l.length mk1] : List Value).toArray 50))
    go_wp2_with fail
    refine (c_szTwo a1 a2 a3 a4 ak1 ak2 ak3 ak4 d e 1048576 _ (HD.out _ HB.out) (HE.out _ HB.out) (by omega) (by omega)).mono ?_
    rw [szB_neg hszn]
    rintro e9 v1 ⟨rfl, hb⟩
    have hz0 := hb.size
    simp only [World.size_alloc] at hz0
    replace Qt2 := Qt2.below hb
    replace Qt3 := Qt3.below hb
    replace HB := Lib.hid (bl_step hb HB.out.size HB.out)
    have qt2 := Qt2.2
    have pt2 := Qt2.1
    have lt2 := Nat.le_of_lt Qt2.1
    have qt3 := Qt3.2
    have pt3 := Qt3.1
    have lt3 := Nat.le_of_lt Qt3.1
    clear hb
    go_wp2_with fail
    go_ret
    exact ⟨rfl, HB.out⟩
  · have hszd : szD d ≤ 1048576 := by omega
    have hsze : szD e ≤ 1048576 := by omega
    have HSd := Lib.hid (small_sz hszd)
    have HSe := Lib.hid (small_sz hsze)
    obtain ⟨⟨⟨X, Y⟩, f⟩, HR⟩ : ∃ R, Hid (keptHeadF d e num base time l = R) := ⟨_, Lib.hid rfl⟩
    have kS := fun (p1 p2 p3 p4 : Option Addr) (k1 k2 k3 k4 : Nat) (p5 : Option Addr) (k5 : Nat) (V : World) h h2 hm => c_spec_KeptHead p1 p2 p3 p4 k1 k2 k3 k4 d e num base time p5 k5 l V h h2 hm
    have kI := fun (p1 p2 p3 p4 : Option Addr) (k1 k2 k3 k4 : Nat) (p5 : Option Addr) (k5 : Nat) (V : World) h h2 hm => c_impl_KeptHead p1 p2 p3 p4 k1 k2 k3 k4 d e num base time p5 k5 l V h h2 hm
    rw [HR.out] at kS kI
    have KS := Lib.hid kS
    have KI := Lib.hid kI
    clear kS kI
    have hsm := keptHead_small (num := num) (base := base) (time := time) (l := l) HSd.out HSe.out
    rw [HR.out] at hsm
    have HSX : Hid (Small X) := hsm.1
    have HSY : Hid (Small Y) := hsm.2
    clear hsm
    obtain ⟨n_de, Hn_de⟩ : ∃ n : Nat, Hid (mkSum d + mkSum e = n) := ⟨_, Lib.hid rfl⟩
    obtain ⟨n_XY, Hn_XY⟩ : ∃ n : Nat, Hid (mkSum X + mkSum Y = n) := ⟨_, Lib.hid rfl⟩
    have hN_de : n_de ≤ 4194304 := by have h1 := HSd.out.2; have h2 := HSe.out.2; have h3 := Hn_de.out; omega
    have hN_XY : n_XY ≤ 4194304 := by have h1 := HSX.out.2; have h2 := HSY.out.2; have h3 := Hn_XY.out; omega
    have hd_de : decide (1 + (n_de : Int) < 0) = false := by simp; omega
    have hd_XY : decide (1 + (n_XY : Int) < 0) = false := by simp; omega
    obtain ⟨left1, HL⟩ : ∃ z : Int, Hid ((1048576 : Int) - (szD d + szD e : Nat) = z) := ⟨_, Lib.hid rfl⟩
    have Hsz1 : Hid (szB 1048576 (szD d + szD e) = left1) := by rw [Hid, szB_pos hbig, HL.out]
    have hlf : decide (left1 < 0) = false := by have := HL.out; simp; omega
    have hl0 : 0 ≤ left1 ∧ left1 ≤ 1048576 := by have := HL.out; omega
    clear hbig
    by_cases hbig2 : left1 - (l.length : Int) < 0
    · have hszn := hbig2
      clear hbig2
      go_enter Try.func6, Try.ntmps6
      have HB : Hid (Below w.heap.size w w) := Lib.hid (Below.refl _ _)
      have Qt2 := Bx.new w [.slice a1 d.1.length ak1, .slice a2 d.2.length ak2, .slice a3 e.1.length ak3, .slice a4 e.2.length ak4] 27
      replace HB := Lib.hid (HB.out.alloc (by (first | (simp; done) | (simp; omega) | omega)) (.cells ([.slice a1 d.1.length ak1, .slice a2 d.2.length ak2, .slice a3 e.1.length ak3, .slice a4 e.2.length ak4] : List Value).toArray 27))
      replace Qt2 := Qt2.alloc (.cells ([.int .i64 num, .int .i64 base, .int .i64 time, .slice m1 l.length mk1] : List Value).toArray 50)
      have Qt3 := Bx.new (w.alloc (.cells ([.slice a1 d.1.length ak1, .slice a2 d.2.length ak2, .slice a3 e.1.length ak3, .slice a4 e.2.length ak4] : List Value).toArray 27)) [.int .i64 num, .int .i64 base, .int .i64 time, .slice m1 l.length mk1] 50
      simp only [World.size_alloc] at Qt3
      replace HB := Lib.hid (HB.out.alloc (by (first | (simp; done) | (simp; omega) | omega)) (.cells ([.int .i64 num, .int .i64 base, .int .i64 time, .slice m1 l.length mk1] : List Value).toArray 50))
      go_wp2_with fail
      refine (c_szTwo a1 a2 a3 a4 ak1 ak2 ak3 ak4 d e 1048576 _ (HD.out _ HB.out) (HE.out _ HB.out) (by omega) (by omega)).mono ?_
      rw [Hsz1.out]
      rintro e9 v1 ⟨rfl, hb⟩
      have hz0 := hb.size
      simp only [World.size_alloc] at hz0
      replace Qt2 := Qt2.below hb
      replace Qt3 := Qt3.below hb
      replace HB := Lib.hid (bl_step hb HB.out.size HB.out)
      have qt2 := Qt2.2
      have pt2 := Qt2.1
      have lt2 := Nat.le_of_lt Qt2.1
      have qt3 := Qt3.2
      have pt3 := Qt3.1
      have lt3 := Nat.le_of_lt Qt3.1
      clear hb
      go_wp2_with fail
      refine (c_laws_szHead num base time m1 mk1 l.length left1 _ (by omega) (by omega) hlm).mono ?_
      rw [szB_neg hszn]
      rintro e9 v2 ⟨rfl, hb⟩
      have hz1 := hb.size
      replace Qt2 := Qt2.below hb
      replace Qt3 := Qt3.below hb
      replace HB := Lib.hid (bl_step hb HB.out.size HB.out)
      replace qt2 := Qt2.2
      replace pt2 := Qt2.1
      replace lt2 := Nat.le_of_lt Qt2.1
      replace qt3 := Qt3.2
      replace pt3 := Qt3.1
      replace lt3 := Nat.le_of_lt Qt3.1
      clear hb
      go_wp2_with fail
      go_ret
      exact ⟨rfl, HB.out⟩
    obtain ⟨left2, HL2⟩ : ∃ z : Int, Hid (left1 - (l.length : Int) = z) := ⟨_, Lib.hid rfl⟩
    have Hsz2 : Hid (szB left1 l.length = left2) := by rw [Hid, szB_pos hbig2, HL2.out]
    have hlf2 : decide (left2 < 0) = false := by have := HL2.out; simp; omega
    have hll : l.length ≤ 1048576 := by omega
    obtain ⟨n_l, Hn_l⟩ : ∃ n : Nat, Hid (3 * l.length = n) := ⟨_, Lib.hid rfl⟩
    have hN_l : n_l ≤ 4194304 := by have h3 := Hn_l.out; omega
    have hd_l : decide (1 + (n_de : Int) + (n_l : Int) < 0) = false := by simp; omega
    clear hbig2
    go_enter Try.func6, Try.ntmps6
    have HB : Hid (Below w.heap.size w w) := Lib.hid (Below.refl _ _)
    have Qt2 := Bx.new w [.slice a1 d.1.length ak1, .slice a2 d.2.length ak2, .slice a3 e.1.length ak3, .slice a4 e.2.length ak4] 27
    replace HB := Lib.hid (HB.out.alloc (by (first | (simp; done) | (simp; omega) | omega)) (.cells ([.slice a1 d.1.length ak1, .slice a2 d.2.length ak2, .slice a3 e.1.length ak3, .slice a4 e.2.length ak4] : List Value).toArray 27))
    replace Qt2 := Qt2.alloc (.cells ([.int .i64 num, .int .i64 base, .int .i64 time, .slice m1 l.length mk1] : List Value).toArray 50)
    have Qt3 := Bx.new (w.alloc (.cells ([.slice a1 d.1.length ak1, .slice a2 d.2.length ak2, .slice a3 e.1.length ak3, .slice a4 e.2.length ak4] : List Value).toArray 27)) [.int .i64 num, .int .i64 base, .int .i64 time, .slice m1 l.length mk1] 50
    simp only [World.size_alloc] at Qt3
    replace HB := Lib.hid (HB.out.alloc (by (first | (simp; done) | (simp; omega) | omega)) (.cells ([.int .i64 num, .int .i64 base, .int .i64 time, .slice m1 l.length mk1] : List Value).toArray 50))
    go_wp2_with fail
    refine (c_szTwo a1 a2 a3 a4 ak1 ak2 ak3 ak4 d e 1048576 _ (HD.out _ HB.out) (HE.out _ HB.out) (by omega) (by omega)).mono ?_
    rw [Hsz1.out]
    rintro e9 v1 ⟨rfl, hb⟩
    have hz0 := hb.size
    simp only [World.size_alloc] at hz0
    replace Qt2 := Qt2.below hb
    replace Qt3 := Qt3.below hb
    replace HB := Lib.hid (bl_step hb HB.out.size HB.out)
    have qt2 := Qt2.2
    have pt2 := Qt2.1
    have lt2 := Nat.le_of_lt Qt2.1
    have qt3 := Qt3.2
    have pt3 := Qt3.1
    have lt3 := Nat.le_of_lt Qt3.1
    clear hb
    go_wp2_with fail
    refine (c_laws_szHead num base time m1 mk1 l.length left1 _ (by omega) (by omega) hlm).mono ?_
    rw [Hsz2.out]
    rintro e9 v2 ⟨rfl, hb⟩
    have hz1 := hb.size
    replace Qt2 := Qt2.below hb
    replace Qt3 := Qt3.below hb
    replace HB := Lib.hid (bl_step hb HB.out.size HB.out)
    replace qt2 := Qt2.2
    replace pt2 := Qt2.1
    replace lt2 := Nat.le_of_lt Qt2.1
    replace qt3 := Qt3.2
    replace pt3 := Qt3.1
    replace lt3 := Nat.le_of_lt Qt3.1
    clear hb
    go_upto_region 8 with fail
    go_cut [6, 7] (fun s6 s7 wx => ∃ (B6 : Nat) (p3a1 : Option Addr) (p3ak1 : Nat) (p3a2 : Option Addr) (p3ak2 : Nat) (p3a3 : Option Addr) (p3ak3 : Nat) (p3a4 : Option Addr) (p3ak4 : Nat) (loo3a hio3a : Nat), s6 = .pointer (some ⟨B6, 0, none⟩) ∧ s7 = .bool f ∧ Bx wx B6 [.slice p3a1 X.1.length p3ak1, .slice p3a2 X.2.length p3ak2, .slice p3a3 Y.1.length p3ak3, .slice p3a4 Y.2.length p3ak4] ∧ Bx wx (w.heap.size) [.slice a1 d.1.length ak1, .slice a2 d.2.length ak2, .slice a3 e.1.length ak3, .slice a4 e.2.length ak4] ∧ Bx wx (w.heap.size + 1) [.int .i64 num, .int .i64 base, .int .i64 time, .slice m1 l.length mk1] ∧ Hid (Sp twoO wx (loo3a) (hio3a) (X, Y) [.slice p3a1 X.1.length p3ak1, .slice p3a2 X.2.length p3ak2, .slice p3a3 Y.1.length p3ak3, .slice p3a4 Y.2.length p3ak4]) ∧ v2.heap.size ≤ B6 ∧ v2.heap.size ≤ loo3a ∧ loo3a ≤ hio3a ∧ hio3a ≤ wx.heap.size ∧ (B6 < loo3a ∨ hio3a ≤ B6) ∧ v2.heap.size ≤ wx.heap.size ∧ Hid (Below w.heap.size w wx))
    case first =>
      refine restK_begin [9] (by kernel_rfl) ?_
      refine restK_take (v := ?_) 0 rfl (by kernel_rfl) (by kernel_rfl) (by kernel_rfl) (by kernel_rfl) (by kernel_rfl) (by kernel_rfl) (fun _ _ _ h => h) (by rfl) ?_ ?_
      rotate_left
      · intro w9 h9; try dsimp only at h9
        obtain ⟨x9, rfl⟩ := later_of h9
        go_simp; try with_reducible rfl
      try simp only [Act.put, List.setIfInBounds_toArray, List.set_cons_zero, List.set_cons_succ]
      refine restK_take (v := ?_) 2 rfl (by kernel_rfl) (by kernel_rfl) (by kernel_rfl) (by kernel_rfl) (by kernel_rfl) (by kernel_rfl) (fun _ _ _ h => h) (by rfl) ?_ ?_
      rotate_left
      · intro w9 h9; try dsimp only at h9
        obtain ⟨x9, rfl⟩ := later_of h9
        go_simp; try with_reducible rfl
      try simp only [Act.put, List.setIfInBounds_toArray, List.set_cons_zero, List.set_cons_succ]
      refine restK_two 1 8 rfl rfl (by kernel_rfl) (by rfl) (by rfl) (fun hS K hK => ?_) (fun hS K hK => ?_)
      · skip
        replace Qt2 := Qt2.drew
        replace Qt3 := Qt3.drew
        replace HB := Lib.hid HB.out.drew
        go_wp2_with fail
        refine (c_toTwo a1 a2 a3 a4 ak1 ak2 ak3 ak4 d e _ (HD.out _ HB.out) (HE.out _ HB.out) HSd.out.1 HSe.out.1).mono ?_
        rintro e9 v3 ⟨p11, p1k1, p12, p1k2, p13, p1k3, p14, p1k4, rfl, hs, hb⟩
        have hz2 := hb.size
        simp only [World.size_drew] at hz2
        replace Qt2 := Qt2.below hb
        replace Qt3 := Qt3.below hb
        replace HB := Lib.hid (bl_step hb HB.out.size HB.out)
        replace qt2 := Qt2.2
        replace pt2 := Qt2.1
        replace lt2 := Nat.le_of_lt Qt2.1
        replace qt3 := Qt3.2
        replace pt3 := Qt3.1
        replace lt3 := Nat.le_of_lt Qt3.1
        simp only [World.size_drew] at hs
        have Ho1 : Hid (Sp twoO v3 (v2.heap.size) (v3.heap.size) (d, e) [.slice p11 d.1.length p1k1, .slice p12 d.2.length p1k2, .slice p13 e.1.length p1k3, .slice p14 e.2.length p1k4]) := hs
        clear hs
        have hS2 := bl_step hb hS.size hS
        refine hK.out _ _ (hS2) ?_
        try simp only [Act.put, List.setIfInBounds_toArray, List.set_cons_zero, List.set_cons_succ]
        clear hK K hS
        clear hS2 hb
        refine restK_two 3 8 rfl rfl (by kernel_rfl) (by rfl) (by rfl) (fun hS K hK => ?_) (fun hS K hK => ?_)
        · skip
          go_wp2_with fail
          refine (c_toHead_o num base time m1 mk1 l _ (HMh.out _ HB.out) (by omega)).mono ?_
          rintro e9 v4 ⟨p21, p2k1, rfl, hs, hb⟩
          have hz3 := hb.size
          replace Qt2 := Qt2.below hb
          replace Qt3 := Qt3.below hb
          replace Ho1 := Lib.hid (Ho1.out.kp (kp_of_below hb (by (first | (simp; done) | (simp; omega) | omega))))
          replace HB := Lib.hid (bl_step hb HB.out.size HB.out)
          replace qt2 := Qt2.2
          replace pt2 := Qt2.1
          replace lt2 := Nat.le_of_lt Qt2.1
          replace qt3 := Qt3.2
          replace pt3 := Qt3.1
          replace lt3 := Nat.le_of_lt Qt3.1
          have Ho2 : Hid (Sp marksO v4 (v3.heap.size) (v4.heap.size) l [.slice p21 l.length p2k1]) := hs
          clear hs
          have hS2 := bl_step hb hS.size hS
          refine hK.out _ _ (hS2) ?_
          try simp only [Act.put, List.setIfInBounds_toArray, List.set_cons_zero, List.set_cons_succ]
          clear hK K hS
          clear hS2 hb
          refine restK_two 4 8 rfl rfl (by kernel_rfl) (by rfl) (by rfl) (fun hS K hK => ?_) (fun hS K hK => ?_)
          · skip
            go_wp2_with fail
            refine (KS.out p11 p12 p13 p14 p1k1 p1k2 p1k3 p1k4 p21 p2k1 _ (Ho1.out).two.1 (Ho1.out).two.2 (Ho2.out).marksR).mono ?_
            rintro e9 v5 ⟨p3a1, p3ak1, p3a2, p3ak2, p3a3, p3ak3, p3a4, p3ak4, rfl, hs, hb⟩
            have hz4 := hb.size
            replace Qt2 := Qt2.below hb
            replace Qt3 := Qt3.below hb
            replace Ho1 := Lib.hid (Ho1.out.kp (kp_of_below hb (by (first | (simp; done) | (simp; omega) | omega))))
            replace Ho2 := Lib.hid (Ho2.out.kp (kp_of_below hb (by (first | (simp; done) | (simp; omega) | omega))))
            replace HB := Lib.hid (bl_step hb HB.out.size HB.out)
            replace qt2 := Qt2.2
            replace pt2 := Qt2.1
            replace lt2 := Nat.le_of_lt Qt2.1
            replace qt3 := Qt3.2
            replace pt3 := Qt3.1
            replace lt3 := Nat.le_of_lt Qt3.1
            dsimp only at hs
            have Ho3a : Hid (Sp twoO v5 (v4.heap.size) (v5.heap.size) (X, Y) [.slice p3a1 X.1.length p3ak1, .slice p3a2 X.2.length p3ak2, .slice p3a3 Y.1.length p3ak3, .slice p3a4 Y.2.length p3ak4]) := hs
            clear hs
            have hS2 := bl_step hb hS.size hS
            refine hK.out _ _ hS2 ?_
            clear hK K hS
            clear hS2 hb
            refine restK_pure (v := ?_) 5 rfl (by kernel_rfl) (by kernel_rfl) (by kernel_rfl) (by kernel_rfl) (fun _ _ _ h => h) (by rfl) ?_ ?_
            rotate_left
            · intro w9; go_simp; try with_reducible rfl
            try simp only [Act.put, List.setIfInBounds_toArray, List.set_cons_zero, List.set_cons_succ]
            refine restK_pure (v := ?_) 6 rfl (by kernel_rfl) (by kernel_rfl) (by kernel_rfl) (by kernel_rfl) (fun _ _ _ h => h) (by rfl) ?_ ?_
            rotate_left
            · intro w9; go_simp; try with_reducible rfl
            try simp only [Act.put, List.setIfInBounds_toArray, List.set_cons_zero, List.set_cons_succ]
            refine restK_pure (v := ?_) 7 rfl (by kernel_rfl) (by kernel_rfl) (by kernel_rfl) (by kernel_rfl) (fun _ _ _ h => h) (by rfl) ?_ ?_
            rotate_left
            · intro w9; go_simp; try with_reducible rfl
            try simp only [Act.put, List.setIfInBounds_toArray, List.set_cons_zero, List.set_cons_succ]
            refine restK_alone 8 rfl (by kernel_rfl) (by rfl) (fun hS K hK => ?_)
            go_wp2_with fail
            have hS2 := hS.alloc hS.size (.cells ([.slice none 0 0, .slice none 0 0, .slice none 0 0, .slice none 0 0] : List Value).toArray 37)
            refine hK.out _ _ (hS2) ?_
            try simp only [Act.put, List.setIfInBounds_toArray, List.set_cons_zero, List.set_cons_succ]
            clear hK K hS
            clear hS2
            refine restK_break 9 rfl (by kernel_rfl) (by rfl) (by kernel_rfl) (fun hS K hK => ?_)
            go_wp2_with fail
            replace Qt2 := Qt2.alloc (.cells ([.slice p3a1 X.1.length p3ak1, .slice p3a2 X.2.length p3ak2, .slice p3a3 Y.1.length p3ak3, .slice p3a4 Y.2.length p3ak4] : List Value).toArray 37)
            replace Qt3 := Qt3.alloc (.cells ([.slice p3a1 X.1.length p3ak1, .slice p3a2 X.2.length p3ak2, .slice p3a3 Y.1.length p3ak3, .slice p3a4 Y.2.length p3ak4] : List Value).toArray 37)
            replace Ho1 := Lib.hid (Ho1.out.kp (kp_alloc (o := (.cells ([.slice p3a1 X.1.length p3ak1, .slice p3a2 X.2.length p3ak2, .slice p3a3 Y.1.length p3ak3, .slice p3a4 Y.2.length p3ak4] : List Value).toArray 37)) (by (first | (simp; done) | (simp; omega) | omega)) kp_refl))
            replace Ho2 := Lib.hid (Ho2.out.kp (kp_alloc (o := (.cells ([.slice p3a1 X.1.length p3ak1, .slice p3a2 X.2.length p3ak2, .slice p3a3 Y.1.length p3ak3, .slice p3a4 Y.2.length p3ak4] : List Value).toArray 37)) (by (first | (simp; done) | (simp; omega) | omega)) kp_refl))
            replace Ho3a := Lib.hid (Ho3a.out.kp (kp_alloc (o := (.cells ([.slice p3a1 X.1.length p3ak1, .slice p3a2 X.2.length p3ak2, .slice p3a3 Y.1.length p3ak3, .slice p3a4 Y.2.length p3ak4] : List Value).toArray 37)) (by (first | (simp; done) | (simp; omega) | omega)) kp_refl))
            have Qt6 := Bx.new v5 [.slice p3a1 X.1.length p3ak1, .slice p3a2 X.2.length p3ak2, .slice p3a3 Y.1.length p3ak3, .slice p3a4 Y.2.length p3ak4] 37
            replace HB := Lib.hid (HB.out.alloc HB.out.size (.cells ([.slice p3a1 X.1.length p3ak1, .slice p3a2 X.2.length p3ak2, .slice p3a3 Y.1.length p3ak3, .slice p3a4 Y.2.length p3ak4] : List Value).toArray 37))
            have hz9 := Qt6.1
            simp only [World.size_alloc] at hz9
            refine hK.out _ _ trivial ?_
            clear hK K hS
            refine rest_take (v := ?_) 10 rfl (by kernel_rfl) (by kernel_rfl) (by kernel_rfl) (fun _ _ _ h => h) (by rfl) ?_ ?_
            rotate_left
            · intro w9; go_simp; try with_reducible rfl
            try simp only [Act.put, List.setIfInBounds_toArray, List.set_cons_zero, List.set_cons_succ]
            refine rest_done (by kernel_rfl) ?_
            go_wp2_with fail
            go_meet
            exact ⟨v5.heap.size, p3a1, p3ak1, p3a2, p3ak2, p3a3, p3ak3, p3a4, p3ak4, v4.heap.size, v5.heap.size, rfl, rfl, Qt6, Qt2, Qt3, Ho3a, by (first | (simp; done) | (simp; omega) | omega), by (first | (simp; done) | (simp; omega) | omega), by (first | (simp; done) | (simp; omega) | omega), by (first | (simp; done) | (simp; omega) | omega), by (first | (simp; done) | (simp; omega) | omega), by have := hz9; (first | (simp; done) | (simp; omega) | omega), HB⟩
          · skip
            go_wp2_with fail
            have FB := Fx.new v4 [.slice none 0 0, .slice none 0 0, .slice none 0 0, .slice none 0 0] 37
            replace Qt2 := Qt2.alloc (.cells ([.slice none 0 0, .slice none 0 0, .slice none 0 0, .slice none 0 0] : List Value).toArray 37)
            replace Qt3 := Qt3.alloc (.cells ([.slice none 0 0, .slice none 0 0, .slice none 0 0, .slice none 0 0] : List Value).toArray 37)
            replace Ho1 := Lib.hid (Ho1.out.kp (kp_alloc (o := (.cells ([.slice none 0 0, .slice none 0 0, .slice none 0 0, .slice none 0 0] : List Value).toArray 37)) (by (first | (simp; done) | (simp; omega) | omega)) kp_refl))
            replace Ho2 := Lib.hid (Ho2.out.kp (kp_alloc (o := (.cells ([.slice none 0 0, .slice none 0 0, .slice none 0 0, .slice none 0 0] : List Value).toArray 37)) (by (first | (simp; done) | (simp; omega) | omega)) kp_refl))
            have Qt6 := Bx.new v4 [.slice none 0 0, .slice none 0 0, .slice none 0 0, .slice none 0 0] 37
            replace HB := Lib.hid (HB.out.alloc HB.out.size (.cells ([.slice none 0 0, .slice none 0 0, .slice none 0 0, .slice none 0 0] : List Value).toArray 37))
            have hS2 := hS.alloc hS.size (.cells ([.slice none 0 0, .slice none 0 0, .slice none 0 0, .slice none 0 0] : List Value).toArray 37)
            refine hK.out _ _ (hS2) ?_
            try simp only [Act.put, List.setIfInBounds_toArray, List.set_cons_zero, List.set_cons_succ]
            clear hK K hS
            clear hS2
            refine restK_alone 4 rfl (by kernel_rfl) (by rfl) (fun hS K hK => ?_)
            go_wp2_with fail
            refine (KS.out p11 p12 p13 p14 p1k1 p1k2 p1k3 p1k4 p21 p2k1 _ (Ho1.out).two.1 (Ho1.out).two.2 (Ho2.out).marksR).mono ?_
            rintro e9 v5 ⟨p3a1, p3ak1, p3a2, p3ak2, p3a3, p3ak3, p3a4, p3ak4, rfl, hs, hb⟩
            have hz4 := hb.size
            simp only [World.size_alloc] at hz4
            replace Qt2 := Qt2.below hb
            replace Qt3 := Qt3.below hb
            replace Qt6 := Qt6.below hb
            replace FB := FB.below hb
            replace Ho1 := Lib.hid (Ho1.out.kp (kp_of_below hb (by (first | (simp; done) | (simp; omega) | omega))))
            replace Ho2 := Lib.hid (Ho2.out.kp (kp_of_below hb (by (first | (simp; done) | (simp; omega) | omega))))
            replace HB := Lib.hid (bl_step hb HB.out.size HB.out)
            replace qt2 := Qt2.2
            replace pt2 := Qt2.1
            replace lt2 := Nat.le_of_lt Qt2.1
            replace qt3 := Qt3.2
            replace pt3 := Qt3.1
            replace lt3 := Nat.le_of_lt Qt3.1
            have qt6 := Qt6.2
            have pt6 := Qt6.1
            have lt6 := Nat.le_of_lt Qt6.1
            simp only [World.size_alloc] at hs
            have Ho3a : Hid (Sp twoO v5 (v4.heap.size + 1) (v5.heap.size) (X, Y) [.slice p3a1 X.1.length p3ak1, .slice p3a2 X.2.length p3ak2, .slice p3a3 Y.1.length p3ak3, .slice p3a4 Y.2.length p3ak4]) := hs
            clear hs
            have hS2 := bl_step hb hS.size hS
            refine hK.out _ _ hS2 ?_
            clear hK K hS
            clear hS2 hb
            refine restK_pure (v := ?_) 5 rfl (by kernel_rfl) (by kernel_rfl) (by kernel_rfl) (by kernel_rfl) (fun _ _ _ h => h) (by rfl) ?_ ?_
            rotate_left
            · intro w9; go_simp; try with_reducible rfl
            try simp only [Act.put, List.setIfInBounds_toArray, List.set_cons_zero, List.set_cons_succ]
            refine restK_pure (v := ?_) 6 rfl (by kernel_rfl) (by kernel_rfl) (by kernel_rfl) (by kernel_rfl) (fun _ _ _ h => h) (by rfl) ?_ ?_
            rotate_left
            · intro w9; go_simp; try with_reducible rfl
            try simp only [Act.put, List.setIfInBounds_toArray, List.set_cons_zero, List.set_cons_succ]
            refine restK_pure (v := ?_) 7 rfl (by kernel_rfl) (by kernel_rfl) (by kernel_rfl) (by kernel_rfl) (fun _ _ _ h => h) (by rfl) ?_ ?_
            rotate_left
            · intro w9; go_simp; try with_reducible rfl
            try simp only [Act.put, List.setIfInBounds_toArray, List.set_cons_zero, List.set_cons_succ]
            refine restK_break 9 rfl (by kernel_rfl) (by rfl) (by kernel_rfl) (fun hS K hK => ?_)
            have fB9 := FB.2
            have hz9 := Qt6.1
            (try simp only [World.size_alloc, World.size_drew] at hz9)
            go_wp2_with fail
            clear fB9
            replace Qt2 := Qt2.setOther ⟨v4.heap.size, 0, none⟩ (.slice p3a1 X.1.length p3ak1) (by (first | (simp; done) | (simp; omega) | omega))
            replace Qt3 := Qt3.setOther ⟨v4.heap.size, 0, none⟩ (.slice p3a1 X.1.length p3ak1) (by (first | (simp; done) | (simp; omega) | omega))
            replace Qt6 := Qt6.set 0 (.slice p3a1 X.1.length p3ak1) (by simp)
            replace Ho1 := Lib.hid (Ho1.out.kp (kp_set (p := ⟨v4.heap.size, 0, none⟩) (u := .slice p3a1 X.1.length p3ak1) (by (first | (simp; done) | (simp; omega) | omega)) kp_refl))
            replace Ho2 := Lib.hid (Ho2.out.kp (kp_set (p := ⟨v4.heap.size, 0, none⟩) (u := .slice p3a1 X.1.length p3ak1) (by (first | (simp; done) | (simp; omega) | omega)) kp_refl))
            replace Ho3a := Lib.hid (Ho3a.out.kp (kp_set (p := ⟨v4.heap.size, 0, none⟩) (u := .slice p3a1 X.1.length p3ak1) (by (first | (simp; done) | (simp; omega) | omega)) kp_refl))
            replace HB := Lib.hid (HB.out.setCell (p := ⟨v4.heap.size, 0, none⟩) (by have := HB.out.size; (first | (simp; done) | (simp; omega) | omega)) (.slice p3a1 X.1.length p3ak1))
            replace Qt2 := Qt2.setOther ⟨v4.heap.size, 1, none⟩ (.slice p3a2 X.2.length p3ak2) (by (first | (simp; done) | (simp; omega) | omega))
            replace Qt3 := Qt3.setOther ⟨v4.heap.size, 1, none⟩ (.slice p3a2 X.2.length p3ak2) (by (first | (simp; done) | (simp; omega) | omega))
            replace Qt6 := Qt6.set 1 (.slice p3a2 X.2.length p3ak2) (by simp)
            replace Ho1 := Lib.hid (Ho1.out.kp (kp_set (p := ⟨v4.heap.size, 1, none⟩) (u := .slice p3a2 X.2.length p3ak2) (by (first | (simp; done) | (simp; omega) | omega)) kp_refl))
            replace Ho2 := Lib.hid (Ho2.out.kp (kp_set (p := ⟨v4.heap.size, 1, none⟩) (u := .slice p3a2 X.2.length p3ak2) (by (first | (simp; done) | (simp; omega) | omega)) kp_refl))
            replace Ho3a := Lib.hid (Ho3a.out.kp (kp_set (p := ⟨v4.heap.size, 1, none⟩) (u := .slice p3a2 X.2.length p3ak2) (by (first | (simp; done) | (simp; omega) | omega)) kp_refl))
            replace HB := Lib.hid (HB.out.setCell (p := ⟨v4.heap.size, 1, none⟩) (by have := HB.out.size; (first | (simp; done) | (simp; omega) | omega)) (.slice p3a2 X.2.length p3ak2))
            replace Qt2 := Qt2.setOther ⟨v4.heap.size, 2, none⟩ (.slice p3a3 Y.1.length p3ak3) (by (first | (simp; done) | (simp; omega) | omega))
            replace Qt3 := Qt3.setOther ⟨v4.heap.size, 2, none⟩ (.slice p3a3 Y.1.length p3ak3) (by (first | (simp; done) | (simp; omega) | omega))
            replace Qt6 := Qt6.set 2 (.slice p3a3 Y.1.length p3ak3) (by simp)
            replace Ho1 := Lib.hid (Ho1.out.kp (kp_set (p := ⟨v4.heap.size, 2, none⟩) (u := .slice p3a3 Y.1.length p3ak3) (by (first | (simp; done) | (simp; omega) | omega)) kp_refl))
            replace Ho2 := Lib.hid (Ho2.out.kp (kp_set (p := ⟨v4.heap.size, 2, none⟩) (u := .slice p3a3 Y.1.length p3ak3) (by (first | (simp; done) | (simp; omega) | omega)) kp_refl))
            replace Ho3a := Lib.hid (Ho3a.out.kp (kp_set (p := ⟨v4.heap.size, 2, none⟩) (u := .slice p3a3 Y.1.length p3ak3) (by (first | (simp; done) | (simp; omega) | omega)) kp_refl))
            replace HB := Lib.hid (HB.out.setCell (p := ⟨v4.heap.size, 2, none⟩) (by have := HB.out.size; (first | (simp; done) | (simp; omega) | omega)) (.slice p3a3 Y.1.length p3ak3))
            replace Qt2 := Qt2.setOther ⟨v4.heap.size, 3, none⟩ (.slice p3a4 Y.2.length p3ak4) (by (first | (simp; done) | (simp; omega) | omega))
            replace Qt3 := Qt3.setOther ⟨v4.heap.size, 3, none⟩ (.slice p3a4 Y.2.length p3ak4) (by (first | (simp; done) | (simp; omega) | omega))
            replace Qt6 := Qt6.set 3 (.slice p3a4 Y.2.length p3ak4) (by simp)
            replace Ho1 := Lib.hid (Ho1.out.kp (kp_set (p := ⟨v4.heap.size, 3, none⟩) (u := .slice p3a4 Y.2.length p3ak4) (by (first | (simp; done) | (simp; omega) | omega)) kp_refl))
            replace Ho2 := Lib.hid (Ho2.out.kp (kp_set (p := ⟨v4.heap.size, 3, none⟩) (u := .slice p3a4 Y.2.length p3ak4) (by (first | (simp; done) | (simp; omega) | omega)) kp_refl))
            replace Ho3a := Lib.hid (Ho3a.out.kp (kp_set (p := ⟨v4.heap.size, 3, none⟩) (u := .slice p3a4 Y.2.length p3ak4) (by (first | (simp; done) | (simp; omega) | omega)) kp_refl))
            replace HB := Lib.hid (HB.out.setCell (p := ⟨v4.heap.size, 3, none⟩) (by have := HB.out.size; (first | (simp; done) | (simp; omega) | omega)) (.slice p3a4 Y.2.length p3ak4))
            simp only [List.set_cons_succ, List.set_cons_zero] at Qt6
            refine hK.out _ _ trivial ?_
            clear hK K hS
            refine rest_take (v := ?_) 10 rfl (by kernel_rfl) (by kernel_rfl) (by kernel_rfl) (fun _ _ _ h => h) (by rfl) ?_ ?_
            rotate_left
            · intro w9; go_simp; try with_reducible rfl
            try simp only [Act.put, List.setIfInBounds_toArray, List.set_cons_zero, List.set_cons_succ]
            refine rest_done (by kernel_rfl) ?_
            go_wp2_with fail
            go_meet
            exact ⟨v4.heap.size, p3a1, p3ak1, p3a2, p3ak2, p3a3, p3ak3, p3a4, p3ak4, v4.heap.size + 1, v5.heap.size, rfl, rfl, Qt6, Qt2, Qt3, Ho3a, by (first | (simp; done) | (simp; omega) | omega), by (first | (simp; done) | (simp; omega) | omega), by (first | (simp; done) | (simp; omega) | omega), by (first | (simp; done) | (simp; omega) | omega), by (first | (simp; done) | (simp; omega) | omega), by have := hz9; (first | (simp; done) | (simp; omega) | omega), HB⟩
        · skip
          go_wp2_with fail
          have FB := Fx.new v3 [.slice none 0 0, .slice none 0 0, .slice none 0 0, .slice none 0 0] 37
          replace Qt2 := Qt2.alloc (.cells ([.slice none 0 0, .slice none 0 0, .slice none 0 0, .slice none 0 0] : List Value).toArray 37)
          replace Qt3 := Qt3.alloc (.cells ([.slice none 0 0, .slice none 0 0, .slice none 0 0, .slice none 0 0] : List Value).toArray 37)
          replace Ho1 := Lib.hid (Ho1.out.kp (kp_alloc (o := (.cells ([.slice none 0 0, .slice none 0 0, .slice none 0 0, .slice none 0 0] : List Value).toArray 37)) (by (first | (simp; done) | (simp; omega) | omega)) kp_refl))
          have Qt6 := Bx.new v3 [.slice none 0 0, .slice none 0 0, .slice none 0 0, .slice none 0 0] 37
          replace HB := Lib.hid (HB.out.alloc HB.out.size (.cells ([.slice none 0 0, .slice none 0 0, .slice none 0 0, .slice none 0 0] : List Value).toArray 37))
          have hS2 := hS.alloc hS.size (.cells ([.slice none 0 0, .slice none 0 0, .slice none 0 0, .slice none 0 0] : List Value).toArray 37)
          refine hK.out _ _ (hS2) ?_
          try simp only [Act.put, List.setIfInBounds_toArray, List.set_cons_zero, List.set_cons_succ]
          clear hK K hS
          clear hS2
          refine restK_alone 3 rfl (by kernel_rfl) (by rfl) (fun hS K hK => ?_)
          go_wp2_with fail
          refine (c_toHead_o num base time m1 mk1 l _ (HMh.out _ HB.out) (by omega)).mono ?_
          rintro e9 v4 ⟨p21, p2k1, rfl, hs, hb⟩
          have hz3 := hb.size
          simp only [World.size_alloc] at hz3
          replace Qt2 := Qt2.below hb
          replace Qt3 := Qt3.below hb
          replace Qt6 := Qt6.below hb
          replace FB := FB.below hb
          replace Ho1 := Lib.hid (Ho1.out.kp (kp_of_below hb (by (first | (simp; done) | (simp; omega) | omega))))
          replace HB := Lib.hid (bl_step hb HB.out.size HB.out)
          replace qt2 := Qt2.2
          replace pt2 := Qt2.1
          replace lt2 := Nat.le_of_lt Qt2.1
          replace qt3 := Qt3.2
          replace pt3 := Qt3.1
          replace lt3 := Nat.le_of_lt Qt3.1
          have qt6 := Qt6.2
          have pt6 := Qt6.1
          have lt6 := Nat.le_of_lt Qt6.1
          simp only [World.size_alloc] at hs
          have Ho2 : Hid (Sp marksO v4 (v3.heap.size + 1) (v4.heap.size) l [.slice p21 l.length p2k1]) := hs
          clear hs
          have hS2 := bl_step hb hS.size hS
          refine hK.out _ _ (hS2) ?_
          try simp only [Act.put, List.setIfInBounds_toArray, List.set_cons_zero, List.set_cons_succ]
          clear hK K hS
          clear hS2 hb
          refine restK_alone 4 rfl (by kernel_rfl) (by rfl) (fun hS K hK => ?_)
          go_wp2_with fail
          refine (KS.out p11 p12 p13 p14 p1k1 p1k2 p1k3 p1k4 p21 p2k1 _ (Ho1.out).two.1 (Ho1.out).two.2 (Ho2.out).marksR).mono ?_
          rintro e9 v5 ⟨p3a1, p3ak1, p3a2, p3ak2, p3a3, p3ak3, p3a4, p3ak4, rfl, hs, hb⟩
          have hz4 := hb.size
          replace Qt2 := Qt2.below hb
          replace Qt3 := Qt3.below hb
          replace Qt6 := Qt6.below hb
          replace FB := FB.below hb
          replace Ho1 := Lib.hid (Ho1.out.kp (kp_of_below hb (by (first | (simp; done) | (simp; omega) | omega))))
          replace Ho2 := Lib.hid (Ho2.out.kp (kp_of_below hb (by (first | (simp; done) | (simp; omega) | omega))))
          replace HB := Lib.hid (bl_step hb HB.out.size HB.out)
          replace qt2 := Qt2.2
          replace pt2 := Qt2.1
          replace lt2 := Nat.le_of_lt Qt2.1
          replace qt3 := Qt3.2
          replace pt3 := Qt3.1
          replace lt3 := Nat.le_of_lt Qt3.1
          replace qt6 := Qt6.2
          replace pt6 := Qt6.1
          replace lt6 := Nat.le_of_lt Qt6.1
          dsimp only at hs
          have Ho3a : Hid (Sp twoO v5 (v4.heap.size) (v5.heap.size) (X, Y) [.slice p3a1 X.1.length p3ak1, .slice p3a2 X.2.length p3ak2, .slice p3a3 Y.1.length p3ak3, .slice p3a4 Y.2.length p3ak4]) := hs
          clear hs
          have hS2 := bl_step hb hS.size hS
          refine hK.out _ _ hS2 ?_
          clear hK K hS
          clear hS2 hb
          refine restK_pure (v := ?_) 5 rfl (by kernel_rfl) (by kernel_rfl) (by kernel_rfl) (by kernel_rfl) (fun _ _ _ h => h) (by rfl) ?_ ?_
          rotate_left
          · intro w9; go_simp; try with_reducible rfl
          try simp only [Act.put, List.setIfInBounds_toArray, List.set_cons_zero, List.set_cons_succ]
          refine restK_pure (v := ?_) 6 rfl (by kernel_rfl) (by kernel_rfl) (by kernel_rfl) (by kernel_rfl) (fun _ _ _ h => h) (by rfl) ?_ ?_
          rotate_left
          · intro w9; go_simp; try with_reducible rfl
          try simp only [Act.put, List.setIfInBounds_toArray, List.set_cons_zero, List.set_cons_succ]
          refine restK_pure (v := ?_) 7 rfl (by kernel_rfl) (by kernel_rfl) (by kernel_rfl) (by kernel_rfl) (fun _ _ _ h => h) (by rfl) ?_ ?_
          rotate_left
          · intro w9; go_simp; try with_reducible rfl
          try simp only [Act.put, List.setIfInBounds_toArray, List.set_cons_zero, List.set_cons_succ]
          refine restK_break 9 rfl (by kernel_rfl) (by rfl) (by kernel_rfl) (fun hS K hK => ?_)
          have fB9 := FB.2
          have hz9 := Qt6.1
          (try simp only [World.size_alloc, World.size_drew] at hz9)
          go_wp2_with fail
          clear fB9
          replace Qt2 := Qt2.setOther ⟨v3.heap.size, 0, none⟩ (.slice p3a1 X.1.length p3ak1) (by (first | (simp; done) | (simp; omega) | omega))
          replace Qt3 := Qt3.setOther ⟨v3.heap.size, 0, none⟩ (.slice p3a1 X.1.length p3ak1) (by (first | (simp; done) | (simp; omega) | omega))
          replace Qt6 := Qt6.set 0 (.slice p3a1 X.1.length p3ak1) (by simp)
          replace Ho1 := Lib.hid (Ho1.out.kp (kp_set (p := ⟨v3.heap.size, 0, none⟩) (u := .slice p3a1 X.1.length p3ak1) (by (first | (simp; done) | (simp; omega) | omega)) kp_refl))
          replace Ho2 := Lib.hid (Ho2.out.kp (kp_set (p := ⟨v3.heap.size, 0, none⟩) (u := .slice p3a1 X.1.length p3ak1) (by (first | (simp; done) | (simp; omega) | omega)) kp_refl))
          replace Ho3a := Lib.hid (Ho3a.out.kp (kp_set (p := ⟨v3.heap.size, 0, none⟩) (u := .slice p3a1 X.1.length p3ak1) (by (first | (simp; done) | (simp; omega) | omega)) kp_refl))
          replace HB := Lib.hid (HB.out.setCell (p := ⟨v3.heap.size, 0, none⟩) (by have := HB.out.size; (first | (simp; done) | (simp; omega) | omega)) (.slice p3a1 X.1.length p3ak1))
          replace Qt2 := Qt2.setOther ⟨v3.heap.size, 1, none⟩ (.slice p3a2 X.2.length p3ak2) (by (first | (simp; done) | (simp; omega) | omega))
          replace Qt3 := Qt3.setOther ⟨v3.heap.size, 1, none⟩ (.slice p3a2 X.2.length p3ak2) (by (first | (simp; done) | (simp; omega) | omega))
          replace Qt6 := Qt6.set 1 (.slice p3a2 X.2.length p3ak2) (by simp)
          replace Ho1 := Lib.hid (Ho1.out.kp (kp_set (p := ⟨v3.heap.size, 1, none⟩) (u := .slice p3a2 X.2.length p3ak2) (by (first | (simp; done) | (simp; omega) | omega)) kp_refl))
          replace Ho2 := Lib.hid (Ho2.out.kp (kp_set (p := ⟨v3.heap.size, 1, none⟩) (u := .slice p3a2 X.2.length p3ak2) (by (first | (simp; done) | (simp; omega) | omega)) kp_refl))
          replace Ho3a := Lib.hid (Ho3a.out.kp (kp_set (p := ⟨v3.heap.size, 1, none⟩) (u := .slice p3a2 X.2.length p3ak2) (by (first | (simp; done) | (simp; omega) | omega)) kp_refl))
          replace HB := Lib.hid (HB.out.setCell (p := ⟨v3.heap.size, 1, none⟩) (by have := HB.out.size; (first | (simp; done) | (simp; omega) | omega)) (.slice p3a2 X.2.length p3ak2))
          replace Qt2 := Qt2.setOther ⟨v3.heap.size, 2, none⟩ (.slice p3a3 Y.1.length p3ak3) (by (first | (simp; done) | (simp; omega) | omega))
          replace Qt3 := Qt3.setOther ⟨v3.heap.size, 2, none⟩ (.slice p3a3 Y.1.length p3ak3) (by (first | (simp; done) | (simp; omega) | omega))
          replace Qt6 := Qt6.set 2 (.slice p3a3 Y.1.length p3ak3) (by simp)
          replace Ho1 := Lib.hid (Ho1.out.kp (kp_set (p := ⟨v3.heap.size, 2, none⟩) (u := .slice p3a3 Y.1.length p3ak3) (by (first | (simp; done) | (simp; omega) | omega)) kp_refl))
          replace Ho2 := Lib.hid (Ho2.out.kp (kp_set (p := ⟨v3.heap.size, 2, none⟩) (u := .slice p3a3 Y.1.length p3ak3) (by (first | (simp; done) | (simp; omega) | omega)) kp_refl))
          replace Ho3a := Lib.hid (Ho3a.out.kp (kp_set (p := ⟨v3.heap.size, 2, none⟩) (u := .slice p3a3 Y.1.length p3ak3) (by (first | (simp; done) | (simp; omega) | omega)) kp_refl))
          replace HB := Lib.hid (HB.out.setCell (p := ⟨v3.heap.size, 2, none⟩) (by have := HB.out.size; (first | (simp; done) | (simp; omega) | omega)) (.slice p3a3 Y.1.length p3ak3))
          replace Qt2 := Qt2.setOther ⟨v3.heap.size, 3, none⟩ (.slice p3a4 Y.2.length p3ak4) (by (first | (simp; done) | (simp; omega) | omega))
          replace Qt3 := Qt3.setOther ⟨v3.heap.size, 3, none⟩ (.slice p3a4 Y.2.length p3ak4) (by (first | (simp; done) | (simp; omega) | omega))
          replace Qt6 := Qt6.set 3 (.slice p3a4 Y.2.length p3ak4) (by simp)
          replace Ho1 := Lib.hid (Ho1.out.kp (kp_set (p := ⟨v3.heap.size, 3, none⟩) (u := .slice p3a4 Y.2.length p3ak4) (by (first | (simp; done) | (simp; omega) | omega)) kp_refl))
          replace Ho2 := Lib.hid (Ho2.out.kp (kp_set (p := ⟨v3.heap.size, 3, none⟩) (u := .slice p3a4 Y.2.length p3ak4) (by (first | (simp; done) | (simp; omega) | omega)) kp_refl))
          replace Ho3a := Lib.hid (Ho3a.out.kp (kp_set (p := ⟨v3.heap.size, 3, none⟩) (u := .slice p3a4 Y.2.length p3ak4) (by (first | (simp; done) | (simp; omega) | omega)) kp_refl))
          replace HB := Lib.hid (HB.out.setCell (p := ⟨v3.heap.size, 3, none⟩) (by have := HB.out.size; (first | (simp; done) | (simp; omega) | omega)) (.slice p3a4 Y.2.length p3ak4))
          simp only [List.set_cons_succ, List.set_cons_zero] at Qt6
          refine hK.out _ _ trivial ?_
          clear hK K hS
          refine rest_take (v := ?_) 10 rfl (by kernel_rfl) (by kernel_rfl) (by kernel_rfl) (fun _ _ _ h => h) (by rfl) ?_ ?_
          rotate_left
          · intro w9; go_simp; try with_reducible rfl
          try simp only [Act.put, List.setIfInBounds_toArray, List.set_cons_zero, List.set_cons_succ]
          refine rest_done (by kernel_rfl) ?_
          go_wp2_with fail
          go_meet
          exact ⟨v3.heap.size, p3a1, p3ak1, p3a2, p3ak2, p3a3, p3ak3, p3a4, p3ak4, v4.heap.size, v5.heap.size, rfl, rfl, Qt6, Qt2, Qt3, Ho3a, by (first | (simp; done) | (simp; omega) | omega), by (first | (simp; done) | (simp; omega) | omega), by (first | (simp; done) | (simp; omega) | omega), by (first | (simp; done) | (simp; omega) | omega), by (first | (simp; done) | (simp; omega) | omega), by have := hz9; (first | (simp; done) | (simp; omega) | omega), HB⟩
      · skip
        replace Qt2 := Qt2.drew
        replace Qt3 := Qt3.drew
        replace HB := Lib.hid HB.out.drew
        go_wp2_with fail
        have FB := Fx.new v2.drew [.slice none 0 0, .slice none 0 0, .slice none 0 0, .slice none 0 0] 37
        simp only [World.size_drew] at FB
        replace Qt2 := Qt2.alloc (.cells ([.slice none 0 0, .slice none 0 0, .slice none 0 0, .slice none 0 0] : List Value).toArray 37)
        replace Qt3 := Qt3.alloc (.cells ([.slice none 0 0, .slice none 0 0, .slice none 0 0, .slice none 0 0] : List Value).toArray 37)
        have Qt6 := Bx.new v2.drew [.slice none 0 0, .slice none 0 0, .slice none 0 0, .slice none 0 0] 37
        simp only [World.size_drew] at Qt6
        replace HB := Lib.hid (HB.out.alloc HB.out.size (.cells ([.slice none 0 0, .slice none 0 0, .slice none 0 0, .slice none 0 0] : List Value).toArray 37))
        have hS2 := hS.alloc hS.size (.cells ([.slice none 0 0, .slice none 0 0, .slice none 0 0, .slice none 0 0] : List Value).toArray 37)
        refine hK.out _ _ (hS2) ?_
        try simp only [Act.put, List.setIfInBounds_toArray, List.set_cons_zero, List.set_cons_succ]
        clear hK K hS
        clear hS2
        refine restK_alone 1 rfl (by kernel_rfl) (by rfl) (fun hS K hK => ?_)
        go_wp2_with fail
        refine (c_toTwo a1 a2 a3 a4 ak1 ak2 ak3 ak4 d e _ (HD.out _ HB.out) (HE.out _ HB.out) HSd.out.1 HSe.out.1).mono ?_
        rintro e9 v3 ⟨p11, p1k1, p12, p1k2, p13, p1k3, p14, p1k4, rfl, hs, hb⟩
        have hz2 := hb.size
        simp only [World.size_alloc, World.size_drew] at hz2
        replace Qt2 := Qt2.below hb
        replace Qt3 := Qt3.below hb
        replace Qt6 := Qt6.below hb
        replace FB := FB.below hb
        replace HB := Lib.hid (bl_step hb HB.out.size HB.out)
        replace qt2 := Qt2.2
        replace pt2 := Qt2.1
        replace lt2 := Nat.le_of_lt Qt2.1
        replace qt3 := Qt3.2
        replace pt3 := Qt3.1
        replace lt3 := Nat.le_of_lt Qt3.1
        have qt6 := Qt6.2
        have pt6 := Qt6.1
        have lt6 := Nat.le_of_lt Qt6.1
        simp only [World.size_alloc, World.size_drew] at hs
        have Ho1 : Hid (Sp twoO v3 (v2.heap.size + 1) (v3.heap.size) (d, e) [.slice p11 d.1.length p1k1, .slice p12 d.2.length p1k2, .slice p13 e.1.length p1k3, .slice p14 e.2.length p1k4]) := hs
        clear hs
        have hS2 := bl_step hb hS.size hS
        refine hK.out _ _ (hS2) ?_
        try simp only [Act.put, List.setIfInBounds_toArray, List.set_cons_zero, List.set_cons_succ]
        clear hK K hS
        clear hS2 hb
        refine restK_alone 3 rfl (by kernel_rfl) (by rfl) (fun hS K hK => ?_)
        go_wp2_with fail
        refine (c_toHead_o num base time m1 mk1 l _ (HMh.out _ HB.out) (by omega)).mono ?_
        rintro e9 v4 ⟨p21, p2k1, rfl, hs, hb⟩
        have hz3 := hb.size
        replace Qt2 := Qt2.below hb
        replace Qt3 := Qt3.below hb
        replace Qt6 := Qt6.below hb
        replace FB := FB.below hb
        replace Ho1 := Lib.hid (Ho1.out.kp (kp_of_below hb (by (first | (simp; done) | (simp; omega) | omega))))
        replace HB := Lib.hid (bl_step hb HB.out.size HB.out)
        replace qt2 := Qt2.2
        replace pt2 := Qt2.1
        replace lt2 := Nat.le_of_lt Qt2.1
        replace qt3 := Qt3.2
        replace pt3 := Qt3.1
        replace lt3 := Nat.le_of_lt Qt3.1
        replace qt6 := Qt6.2
        replace pt6 := Qt6.1
        replace lt6 := Nat.le_of_lt Qt6.1
        have Ho2 : Hid (Sp marksO v4 (v3.heap.size) (v4.heap.size) l [.slice p21 l.length p2k1]) := hs
        clear hs
        have hS2 := bl_step hb hS.size hS
        refine hK.out _ _ (hS2) ?_
        try simp only [Act.put, List.setIfInBounds_toArray, List.set_cons_zero, List.set_cons_succ]
        clear hK K hS
        clear hS2 hb
        refine restK_alone 4 rfl (by kernel_rfl) (by rfl) (fun hS K hK => ?_)
        go_wp2_with fail
        refine (KS.out p11 p12 p13 p14 p1k1 p1k2 p1k3 p1k4 p21 p2k1 _ (Ho1.out).two.1 (Ho1.out).two.2 (Ho2.out).marksR).mono ?_
        rintro e9 v5 ⟨p3a1, p3ak1, p3a2, p3ak2, p3a3, p3ak3, p3a4, p3ak4, rfl, hs, hb⟩
        have hz4 := hb.size
        replace Qt2 := Qt2.below hb
        replace Qt3 := Qt3.below hb
        replace Qt6 := Qt6.below hb
        replace FB := FB.below hb
        replace Ho1 := Lib.hid (Ho1.out.kp (kp_of_below hb (by (first | (simp; done) | (simp; omega) | omega))))
        replace Ho2 := Lib.hid (Ho2.out.kp (kp_of_below hb (by (first | (simp; done) | (simp; omega) | omega))))
        replace HB := Lib.hid (bl_step hb HB.out.size HB.out)
        replace qt2 := Qt2.2
        replace pt2 := Qt2.1
        replace lt2 := Nat.le_of_lt Qt2.1
        replace qt3 := Qt3.2
        replace pt3 := Qt3.1
        replace lt3 := Nat.le_of_lt Qt3.1
        replace qt6 := Qt6.2
        replace pt6 := Qt6.1
        replace lt6 := Nat.le_of_lt Qt6.1
        dsimp only at hs
        have Ho3a : Hid (Sp twoO v5 (v4.heap.size) (v5.heap.size) (X, Y) [.slice p3a1 X.1.length p3ak1, .slice p3a2 X.2.length p3ak2, .slice p3a3 Y.1.length p3ak3, .slice p3a4 Y.2.length p3ak4]) := hs
        clear hs
        have hS2 := bl_step hb hS.size hS
        refine hK.out _ _ hS2 ?_
        clear hK K hS
        clear hS2 hb
        refine restK_pure (v := ?_) 5 rfl (by kernel_rfl) (by kernel_rfl) (by kernel_rfl) (by kernel_rfl) (fun _ _ _ h => h) (by rfl) ?_ ?_
        rotate_left
        · intro w9; go_simp; try with_reducible rfl
        try simp only [Act.put, List.setIfInBounds_toArray, List.set_cons_zero, List.set_cons_succ]
        refine restK_pure (v := ?_) 6 rfl (by kernel_rfl) (by kernel_rfl) (by kernel_rfl) (by kernel_rfl) (fun _ _ _ h => h) (by rfl) ?_ ?_
        rotate_left
        · intro w9; go_simp; try with_reducible rfl
        try simp only [Act.put, List.setIfInBounds_toArray, List.set_cons_zero, List.set_cons_succ]
        refine restK_pure (v := ?_) 7 rfl (by kernel_rfl) (by kernel_rfl) (by kernel_rfl) (by kernel_rfl) (fun _ _ _ h => h) (by rfl) ?_ ?_
        rotate_left
        · intro w9; go_simp; try with_reducible rfl
        try simp only [Act.put, List.setIfInBounds_toArray, List.set_cons_zero, List.set_cons_succ]
        refine restK_break 9 rfl (by kernel_rfl) (by rfl) (by kernel_rfl) (fun hS K hK => ?_)
        have fB9 := FB.2
        have hz9 := Qt6.1
        (try simp only [World.size_alloc, World.size_drew] at hz9)
        go_wp2_with fail
        clear fB9
        replace Qt2 := Qt2.setOther ⟨v2.heap.size, 0, none⟩ (.slice p3a1 X.1.length p3ak1) (by (first | (simp; done) | (simp; omega) | omega))
        replace Qt3 := Qt3.setOther ⟨v2.heap.size, 0, none⟩ (.slice p3a1 X.1.length p3ak1) (by (first | (simp; done) | (simp; omega) | omega))
        replace Qt6 := Qt6.set 0 (.slice p3a1 X.1.length p3ak1) (by simp)
        replace Ho1 := Lib.hid (Ho1.out.kp (kp_set (p := ⟨v2.heap.size, 0, none⟩) (u := .slice p3a1 X.1.length p3ak1) (by (first | (simp; done) | (simp; omega) | omega)) kp_refl))
        replace Ho2 := Lib.hid (Ho2.out.kp (kp_set (p := ⟨v2.heap.size, 0, none⟩) (u := .slice p3a1 X.1.length p3ak1) (by (first | (simp; done) | (simp; omega) | omega)) kp_refl))
        replace Ho3a := Lib.hid (Ho3a.out.kp (kp_set (p := ⟨v2.heap.size, 0, none⟩) (u := .slice p3a1 X.1.length p3ak1) (by (first | (simp; done) | (simp; omega) | omega)) kp_refl))
        replace HB := Lib.hid (HB.out.setCell (p := ⟨v2.heap.size, 0, none⟩) (by have := HB.out.size; (first | (simp; done) | (simp; omega) | omega)) (.slice p3a1 X.1.length p3ak1))
        replace Qt2 := Qt2.setOther ⟨v2.heap.size, 1, none⟩ (.slice p3a2 X.2.length p3ak2) (by (first | (simp; done) | (simp; omega) | omega))
        replace Qt3 := Qt3.setOther ⟨v2.heap.size, 1, none⟩ (.slice p3a2 X.2.length p3ak2) (by (first | (simp; done) | (simp; omega) | omega))
        replace Qt6 := Qt6.set 1 (.slice p3a2 X.2.length p3ak2) (by simp)
        replace Ho1 := Lib.hid (Ho1.out.kp (kp_set (p := ⟨v2.heap.size, 1, none⟩) (u := .slice p3a2 X.2.length p3ak2) (by (first | (simp; done) | (simp; omega) | omega)) kp_refl))
        replace Ho2 := Lib.hid (Ho2.out.kp (kp_set (p := ⟨v2.heap.size, 1, none⟩) (u := .slice p3a2 X.2.length p3ak2) (by (first | (simp; done) | (simp; omega) | omega)) kp_refl))
        replace Ho3a := Lib.hid (Ho3a.out.kp (kp_set (p := ⟨v2.heap.size, 1, none⟩) (u := .slice p3a2 X.2.length p3ak2) (by (first | (simp; done) | (simp; omega) | omega)) kp_refl))
        replace HB := Lib.hid (HB.out.setCell (p := ⟨v2.heap.size, 1, none⟩) (by have := HB.out.size; (first | (simp; done) | (simp; omega) | omega)) (.slice p3a2 X.2.length p3ak2))
        replace Qt2 := Qt2.setOther ⟨v2.heap.size, 2, none⟩ (.slice p3a3 Y.1.length p3ak3) (by (first | (simp; done) | (simp; omega) | omega))
        replace Qt3 := Qt3.setOther ⟨v2.heap.size, 2, none⟩ (.slice p3a3 Y.1.length p3ak3) (by (first | (simp; done) | (simp; omega) | omega))
        replace Qt6 := Qt6.set 2 (.slice p3a3 Y.1.length p3ak3) (by simp)
        replace Ho1 := Lib.hid (Ho1.out.kp (kp_set (p := ⟨v2.heap.size, 2, none⟩) (u := .slice p3a3 Y.1.length p3ak3) (by (first | (simp; done) | (simp; omega) | omega)) kp_refl))
        replace Ho2 := Lib.hid (Ho2.out.kp (kp_set (p := ⟨v2.heap.size, 2, none⟩) (u := .slice p3a3 Y.1.length p3ak3) (by (first | (simp; done) | (simp; omega) | omega)) kp_refl))
        replace Ho3a := Lib.hid (Ho3a.out.kp (kp_set (p := ⟨v2.heap.size, 2, none⟩) (u := .slice p3a3 Y.1.length p3ak3) (by (first | (simp; done) | (simp; omega) | omega)) kp_refl))
        replace HB := Lib.hid (HB.out.setCell (p := ⟨v2.heap.size, 2, none⟩) (by have := HB.out.size; (first | (simp; done) | (simp; omega) | omega)) (.slice p3a3 Y.1.length p3ak3))
        replace Qt2 := Qt2.setOther ⟨v2.heap.size, 3, none⟩ (.slice p3a4 Y.2.length p3ak4) (by (first | (simp; done) | (simp; omega) | omega))
        replace Qt3 := Qt3.setOther ⟨v2.heap.size, 3, none⟩ (.slice p3a4 Y.2.length p3ak4) (by (first | (simp; done) | (simp; omega) | omega))
        replace Qt6 := Qt6.set 3 (.slice p3a4 Y.2.length p3ak4) (by simp)
        replace Ho1 := Lib.hid (Ho1.out.kp (kp_set (p := ⟨v2.heap.size, 3, none⟩) (u := .slice p3a4 Y.2.length p3ak4) (by (first | (simp; done) | (simp; omega) | omega)) kp_refl))
        replace Ho2 := Lib.hid (Ho2.out.kp (kp_set (p := ⟨v2.heap.size, 3, none⟩) (u := .slice p3a4 Y.2.length p3ak4) (by (first | (simp; done) | (simp; omega) | omega)) kp_refl))
        replace Ho3a := Lib.hid (Ho3a.out.kp (kp_set (p := ⟨v2.heap.size, 3, none⟩) (u := .slice p3a4 Y.2.length p3ak4) (by (first | (simp; done) | (simp; omega) | omega)) kp_refl))
        replace HB := Lib.hid (HB.out.setCell (p := ⟨v2.heap.size, 3, none⟩) (by have := HB.out.size; (first | (simp; done) | (simp; omega) | omega)) (.slice p3a4 Y.2.length p3ak4))
        simp only [List.set_cons_succ, List.set_cons_zero] at Qt6
        refine hK.out _ _ trivial ?_
        clear hK K hS
        refine rest_take (v := ?_) 10 rfl (by kernel_rfl) (by kernel_rfl) (by kernel_rfl) (fun _ _ _ h => h) (by rfl) ?_ ?_
        rotate_left
        · intro w9; go_simp; try with_reducible rfl
        try simp only [Act.put, List.setIfInBounds_toArray, List.set_cons_zero, List.set_cons_succ]
        refine rest_done (by kernel_rfl) ?_
        go_wp2_with fail
        go_meet
        exact ⟨v2.heap.size, p3a1, p3ak1, p3a2, p3ak2, p3a3, p3ak3, p3a4, p3ak4, v4.heap.size, v5.heap.size, rfl, rfl, Qt6, Qt2, Qt3, Ho3a, by (first | (simp; done) | (simp; omega) | omega), by (first | (simp; done) | (simp; omega) | omega), by (first | (simp; done) | (simp; omega) | omega), by (first | (simp; done) | (simp; omega) | omega), by (first | (simp; done) | (simp; omega) | omega), by have := hz9; (first | (simp; done) | (simp; omega) | omega), HB⟩
    clear Qt2 qt2 pt2 lt2 Qt3 qt3 pt3 lt3 HB
    obtain ⟨B6, p3a1, p3ak1, p3a2, p3ak2, p3a3, p3ak3, p3a4, p3ak4, loo3a, hio3a, rfl, rfl, Qt6, Qt2, Qt3, Ho3a, hy0, hlo3a, hmo3a, hho3a, hdo3a, hw0, HB⟩ := hcut
    obtain ⟨v6, HV⟩ : ∃ V, Hid (V = wc) := ⟨wc, Lib.hid rfl⟩
    have eV := HV.out
    subst eV
    clear HV
    have hxt6 := Qt6.1
    have qt2 := Qt2.2
    have pt2 := Qt2.1
    have lt2 := Nat.le_of_lt Qt2.1
    have qt3 := Qt3.2
    have pt3 := Qt3.1
    have lt3 := Nat.le_of_lt Qt3.1
    have qt6 := Qt6.2
    have pt6 := Qt6.1
    have lt6 := Nat.le_of_lt Qt6.1
    go_wp2_with fail
    refine (c_toTwo a1 a2 a3 a4 ak1 ak2 ak3 ak4 d e _ (HD.out _ HB.out) (HE.out _ HB.out) HSd.out.1 HSe.out.1).mono ?_
    rintro e9 v7 ⟨p41, p4k1, p42, p4k2, p43, p4k3, p44, p4k4, rfl, hs, hb⟩
    have hz2 := hb.size
    replace Qt2 := Qt2.below hb
    replace Qt3 := Qt3.below hb
    replace Qt6 := Qt6.below hb
    replace Ho3a := Lib.hid (Ho3a.out.kp (kp_of_below hb (by (first | (simp; done) | (simp; omega) | omega))))
    replace HB := Lib.hid (bl_step hb HB.out.size HB.out)
    replace qt2 := Qt2.2
    replace pt2 := Qt2.1
    replace lt2 := Nat.le_of_lt Qt2.1
    replace qt3 := Qt3.2
    replace pt3 := Qt3.1
    replace lt3 := Nat.le_of_lt Qt3.1
    replace qt6 := Qt6.2
    replace pt6 := Qt6.1
    replace lt6 := Nat.le_of_lt Qt6.1
    have Ho4 : Hid (Sp twoO v7 (v6.heap.size) (v7.heap.size) (d, e) [.slice p41 d.1.length p4k1, .slice p42 d.2.length p4k2, .slice p43 e.1.length p4k3, .slice p44 e.2.length p4k4]) := hs
    clear hs
    clear hb
    replace Qt2 := Qt2.alloc (.cells ([.slice p41 d.1.length p4k1, .slice p42 d.2.length p4k2, .slice p43 e.1.length p4k3, .slice p44 e.2.length p4k4] : List Value).toArray 37)
    replace Qt3 := Qt3.alloc (.cells ([.slice p41 d.1.length p4k1, .slice p42 d.2.length p4k2, .slice p43 e.1.length p4k3, .slice p44 e.2.length p4k4] : List Value).toArray 37)
    replace Qt6 := Qt6.alloc (.cells ([.slice p41 d.1.length p4k1, .slice p42 d.2.length p4k2, .slice p43 e.1.length p4k3, .slice p44 e.2.length p4k4] : List Value).toArray 37)
    replace Ho3a := Lib.hid (Ho3a.out.kp (kp_alloc (o := (.cells ([.slice p41 d.1.length p4k1, .slice p42 d.2.length p4k2, .slice p43 e.1.length p4k3, .slice p44 e.2.length p4k4] : List Value).toArray 37)) (by (first | (simp; done) | (simp; omega) | omega)) kp_refl))
    replace Ho4 := Lib.hid (Ho4.out.kp (kp_alloc (o := (.cells ([.slice p41 d.1.length p4k1, .slice p42 d.2.length p4k2, .slice p43 e.1.length p4k3, .slice p44 e.2.length p4k4] : List Value).toArray 37)) (by (first | (simp; done) | (simp; omega) | omega)) kp_refl))
    have Qt8 := Bx.new v7 [.slice p41 d.1.length p4k1, .slice p42 d.2.length p4k2, .slice p43 e.1.length p4k3, .slice p44 e.2.length p4k4] 37
    replace HB := Lib.hid (HB.out.alloc HB.out.size (.cells ([.slice p41 d.1.length p4k1, .slice p42 d.2.length p4k2, .slice p43 e.1.length p4k3, .slice p44 e.2.length p4k4] : List Value).toArray 37))
    go_wp2_with fail
    refine (c_toHead_o num base time m1 mk1 l _ (HMh.out _ HB.out) (by omega)).mono ?_
    rintro e9 v8 ⟨p51, p5k1, rfl, hs, hb⟩
    have hz3 := hb.size
    simp only [World.size_alloc] at hz3
    replace Qt2 := Qt2.below hb
    replace Qt3 := Qt3.below hb
    replace Qt6 := Qt6.below hb
    replace Qt8 := Qt8.below hb
    replace Ho3a := Lib.hid (Ho3a.out.kp (kp_of_below hb (by (first | (simp; done) | (simp; omega) | omega))))
    replace Ho4 := Lib.hid (Ho4.out.kp (kp_of_below hb (by (first | (simp; done) | (simp; omega) | omega))))
    replace HB := Lib.hid (bl_step hb HB.out.size HB.out)
    replace qt2 := Qt2.2
    replace pt2 := Qt2.1
    replace lt2 := Nat.le_of_lt Qt2.1
    replace qt3 := Qt3.2
    replace pt3 := Qt3.1
    replace lt3 := Nat.le_of_lt Qt3.1
    replace qt6 := Qt6.2
    replace pt6 := Qt6.1
    replace lt6 := Nat.le_of_lt Qt6.1
    have qt8 := Qt8.2
    have pt8 := Qt8.1
    have lt8 := Nat.le_of_lt Qt8.1
    simp only [World.size_alloc] at hs
    have Ho5 : Hid (Sp marksO v8 (v7.heap.size + 1) (v8.heap.size) l [.slice p51 l.length p5k1]) := hs
    clear hs
    clear hb
    replace Qt2 := Qt2.alloc (.cells ([.int .i64 num, .int .i64 base, .int .i64 time, .slice p51 l.length p5k1] : List Value).toArray 61)
    replace Qt3 := Qt3.alloc (.cells ([.int .i64 num, .int .i64 base, .int .i64 time, .slice p51 l.length p5k1] : List Value).toArray 61)
    replace Qt6 := Qt6.alloc (.cells ([.int .i64 num, .int .i64 base, .int .i64 time, .slice p51 l.length p5k1] : List Value).toArray 61)
    replace Qt8 := Qt8.alloc (.cells ([.int .i64 num, .int .i64 base, .int .i64 time, .slice p51 l.length p5k1] : List Value).toArray 61)
    replace Ho3a := Lib.hid (Ho3a.out.kp (kp_alloc (o := (.cells ([.int .i64 num, .int .i64 base, .int .i64 time, .slice p51 l.length p5k1] : List Value).toArray 61)) (by (first | (simp; done) | (simp; omega) | omega)) kp_refl))
    replace Ho4 := Lib.hid (Ho4.out.kp (kp_alloc (o := (.cells ([.int .i64 num, .int .i64 base, .int .i64 time, .slice p51 l.length p5k1] : List Value).toArray 61)) (by (first | (simp; done) | (simp; omega) | omega)) kp_refl))
    replace Ho5 := Lib.hid (Ho5.out.kp (kp_alloc (o := (.cells ([.int .i64 num, .int .i64 base, .int .i64 time, .slice p51 l.length p5k1] : List Value).toArray 61)) (by (first | (simp; done) | (simp; omega) | omega)) kp_refl))
    have Qt9 := Bx.new v8 [.int .i64 num, .int .i64 base, .int .i64 time, .slice p51 l.length p5k1] 61
    replace HB := Lib.hid (HB.out.alloc HB.out.size (.cells ([.int .i64 num, .int .i64 base, .int .i64 time, .slice p51 l.length p5k1] : List Value).toArray 61))
    go_wp2_with fail
    refine (KI.out p41 p42 p43 p44 p4k1 p4k2 p4k3 p4k4 p51 p5k1 _ (Ho4.out).two.1 (Ho4.out).two.2 (Ho5.out).marksR).mono ?_
    rintro e9 v9 ⟨p6a1, p6ak1, p6a2, p6ak2, p6a3, p6ak3, p6a4, p6ak4, rfl, hs, hb⟩
    have hz4 := hb.size
    simp only [World.size_alloc] at hz4
    replace Qt2 := Qt2.below hb
    replace Qt3 := Qt3.below hb
    replace Qt6 := Qt6.below hb
    replace Qt8 := Qt8.below hb
    replace Qt9 := Qt9.below hb
    replace Ho3a := Lib.hid (Ho3a.out.kp (kp_of_below hb (by (first | (simp; done) | (simp; omega) | omega))))
    replace Ho4 := Lib.hid (Ho4.out.kp (kp_of_below hb (by (first | (simp; done) | (simp; omega) | omega))))
    replace Ho5 := Lib.hid (Ho5.out.kp (kp_of_below hb (by (first | (simp; done) | (simp; omega) | omega))))
    replace HB := Lib.hid (bl_step hb HB.out.size HB.out)
    replace qt2 := Qt2.2
    replace pt2 := Qt2.1
    replace lt2 := Nat.le_of_lt Qt2.1
    replace qt3 := Qt3.2
    replace pt3 := Qt3.1
    replace lt3 := Nat.le_of_lt Qt3.1
    replace qt6 := Qt6.2
    replace pt6 := Qt6.1
    replace lt6 := Nat.le_of_lt Qt6.1
    replace qt8 := Qt8.2
    replace pt8 := Qt8.1
    replace lt8 := Nat.le_of_lt Qt8.1
    have qt9 := Qt9.2
    have pt9 := Qt9.1
    have lt9 := Nat.le_of_lt Qt9.1
    simp only [World.size_alloc] at hs
    have Ho6a : Hid (Sp twoO v9 (v8.heap.size + 1) (v9.heap.size) (X, Y) [.slice p6a1 X.1.length p6ak1, .slice p6a2 X.2.length p6ak2, .slice p6a3 Y.1.length p6ak3, .slice p6a4 Y.2.length p6ak4]) := hs
    clear hs
    clear hb
    replace Qt2 := Qt2.alloc (.cells ([.slice p6a1 X.1.length p6ak1, .slice p6a2 X.2.length p6ak2, .slice p6a3 Y.1.length p6ak3, .slice p6a4 Y.2.length p6ak4] : List Value).toArray 37)
    replace Qt3 := Qt3.alloc (.cells ([.slice p6a1 X.1.length p6ak1, .slice p6a2 X.2.length p6ak2, .slice p6a3 Y.1.length p6ak3, .slice p6a4 Y.2.length p6ak4] : List Value).toArray 37)
    replace Qt6 := Qt6.alloc (.cells ([.slice p6a1 X.1.length p6ak1, .slice p6a2 X.2.length p6ak2, .slice p6a3 Y.1.length p6ak3, .slice p6a4 Y.2.length p6ak4] : List Value).toArray 37)
    replace Qt8 := Qt8.alloc (.cells ([.slice p6a1 X.1.length p6ak1, .slice p6a2 X.2.length p6ak2, .slice p6a3 Y.1.length p6ak3, .slice p6a4 Y.2.length p6ak4] : List Value).toArray 37)
    replace Qt9 := Qt9.alloc (.cells ([.slice p6a1 X.1.length p6ak1, .slice p6a2 X.2.length p6ak2, .slice p6a3 Y.1.length p6ak3, .slice p6a4 Y.2.length p6ak4] : List Value).toArray 37)
    replace Ho3a := Lib.hid (Ho3a.out.kp (kp_alloc (o := (.cells ([.slice p6a1 X.1.length p6ak1, .slice p6a2 X.2.length p6ak2, .slice p6a3 Y.1.length p6ak3, .slice p6a4 Y.2.length p6ak4] : List Value).toArray 37)) (by (first | (simp; done) | (simp; omega) | omega)) kp_refl))
    replace Ho4 := Lib.hid (Ho4.out.kp (kp_alloc (o := (.cells ([.slice p6a1 X.1.length p6ak1, .slice p6a2 X.2.length p6ak2, .slice p6a3 Y.1.length p6ak3, .slice p6a4 Y.2.length p6ak4] : List Value).toArray 37)) (by (first | (simp; done) | (simp; omega) | omega)) kp_refl))
    replace Ho5 := Lib.hid (Ho5.out.kp (kp_alloc (o := (.cells ([.slice p6a1 X.1.length p6ak1, .slice p6a2 X.2.length p6ak2, .slice p6a3 Y.1.length p6ak3, .slice p6a4 Y.2.length p6ak4] : List Value).toArray 37)) (by (first | (simp; done) | (simp; omega) | omega)) kp_refl))
    replace Ho6a := Lib.hid (Ho6a.out.kp (kp_alloc (o := (.cells ([.slice p6a1 X.1.length p6ak1, .slice p6a2 X.2.length p6ak2, .slice p6a3 Y.1.length p6ak3, .slice p6a4 Y.2.length p6ak4] : List Value).toArray 37)) (by (first | (simp; done) | (simp; omega) | omega)) kp_refl))
    have Qt10 := Bx.new v9 [.slice p6a1 X.1.length p6ak1, .slice p6a2 X.2.length p6ak2, .slice p6a3 Y.1.length p6ak3, .slice p6a4 Y.2.length p6ak4] 37
    replace HB := Lib.hid (HB.out.alloc HB.out.size (.cells ([.slice p6a1 X.1.length p6ak1, .slice p6a2 X.2.length p6ak2, .slice p6a3 Y.1.length p6ak3, .slice p6a4 Y.2.length p6ak4] : List Value).toArray 37))
    go_wp2_with fail
    refine (c_eqTwo_o Ho6a.out Ho3a.out).mono ?_
    rintro e9 v10 ⟨rfl, hb⟩
    have hz5 := hb.size
    simp only [World.size_alloc] at hz5
    replace Qt2 := Qt2.below hb
    replace Qt3 := Qt3.below hb
    replace Qt6 := Qt6.below hb
    replace Qt8 := Qt8.below hb
    replace Qt9 := Qt9.below hb
    replace Qt10 := Qt10.below hb
    replace Ho3a := Lib.hid (Ho3a.out.kp (kp_of_below hb (by (first | (simp; done) | (simp; omega) | omega))))
    replace Ho4 := Lib.hid (Ho4.out.kp (kp_of_below hb (by (first | (simp; done) | (simp; omega) | omega))))
    replace Ho5 := Lib.hid (Ho5.out.kp (kp_of_below hb (by (first | (simp; done) | (simp; omega) | omega))))
    replace Ho6a := Lib.hid (Ho6a.out.kp (kp_of_below hb (by (first | (simp; done) | (simp; omega) | omega))))
    replace HB := Lib.hid (bl_step hb HB.out.size HB.out)
    replace qt2 := Qt2.2
    replace pt2 := Qt2.1
    replace lt2 := Nat.le_of_lt Qt2.1
    replace qt3 := Qt3.2
    replace pt3 := Qt3.1
    replace lt3 := Nat.le_of_lt Qt3.1
    replace qt6 := Qt6.2
    replace pt6 := Qt6.1
    replace lt6 := Nat.le_of_lt Qt6.1
    replace qt8 := Qt8.2
    replace pt8 := Qt8.1
    replace lt8 := Nat.le_of_lt Qt8.1
    replace qt9 := Qt9.2
    replace pt9 := Qt9.1
    replace lt9 := Nat.le_of_lt Qt9.1
    have qt10 := Qt10.2
    have pt10 := Qt10.1
    have lt10 := Nat.le_of_lt Qt10.1
    clear hb
    go_wp2_with fail
    refine restK_begin [] (by kernel_rfl) ?_
    refine restK_take (v := ?_) 0 rfl (by kernel_rfl) (by kernel_rfl) (by kernel_rfl) (by kernel_rfl) (by kernel_rfl) (by kernel_rfl) (fun _ _ _ h => h) (by rfl) ?_ ?_
    rotate_left
    · intro w9 h9; try dsimp only at h9
      obtain ⟨x9, rfl⟩ := later_of h9
      go_simp; try with_reducible rfl
    try simp only [Act.put, List.setIfInBounds_toArray, List.set_cons_zero, List.set_cons_succ]
    refine restK_take (v := ?_) 1 rfl (by kernel_rfl) (by kernel_rfl) (by kernel_rfl) (by kernel_rfl) (by kernel_rfl) (by kernel_rfl) (fun _ _ _ h => h) (by rfl) ?_ ?_
    rotate_left
    · intro w9 h9; try dsimp only at h9
      obtain ⟨x9, rfl⟩ := later_of h9
      go_simp; try with_reducible rfl
    try simp only [Act.put, List.setIfInBounds_toArray, List.set_cons_zero, List.set_cons_succ]
    refine restK_alone 2 rfl (by kernel_rfl) (by rfl) (fun hS K hK => ?_)
    replace Qt2 := Qt2.drew
    replace Qt3 := Qt3.drew
    replace Qt6 := Qt6.drew
    replace Qt8 := Qt8.drew
    replace Qt9 := Qt9.drew
    replace Qt10 := Qt10.drew
    replace Ho3a := Lib.hid (Ho3a.out.kp (kp_drew kp_refl))
    replace Ho4 := Lib.hid (Ho4.out.kp (kp_drew kp_refl))
    replace Ho5 := Lib.hid (Ho5.out.kp (kp_drew kp_refl))
    replace Ho6a := Lib.hid (Ho6a.out.kp (kp_drew kp_refl))
    replace HB := Lib.hid HB.out.drew
    go_wp2_with fail
    refine (c_toTwo a1 a2 a3 a4 ak1 ak2 ak3 ak4 d e _ (HD.out _ HB.out) (HE.out _ HB.out) HSd.out.1 HSe.out.1).mono ?_
    rintro e9 v11 ⟨p71, p7k1, p72, p7k2, p73, p7k3, p74, p7k4, rfl, hs, hb⟩
    have hz6 := hb.size
    simp only [World.size_drew] at hz6
    replace Qt2 := Qt2.below hb
    replace Qt3 := Qt3.below hb
    replace Qt6 := Qt6.below hb
    replace Qt8 := Qt8.below hb
    replace Qt9 := Qt9.below hb
    replace Qt10 := Qt10.below hb
    replace Ho3a := Lib.hid (Ho3a.out.kp (kp_of_below hb (by (first | (simp; done) | (simp; omega) | omega))))
    replace Ho4 := Lib.hid (Ho4.out.kp (kp_of_below hb (by (first | (simp; done) | (simp; omega) | omega))))
    replace Ho5 := Lib.hid (Ho5.out.kp (kp_of_below hb (by (first | (simp; done) | (simp; omega) | omega))))
    replace Ho6a := Lib.hid (Ho6a.out.kp (kp_of_below hb (by (first | (simp; done) | (simp; omega) | omega))))
    replace HB := Lib.hid (bl_step hb HB.out.size HB.out)
    replace qt2 := Qt2.2
    replace pt2 := Qt2.1
    replace lt2 := Nat.le_of_lt Qt2.1
    replace qt3 := Qt3.2
    replace pt3 := Qt3.1
    replace lt3 := Nat.le_of_lt Qt3.1
    replace qt6 := Qt6.2
    replace pt6 := Qt6.1
    replace lt6 := Nat.le_of_lt Qt6.1
    replace qt8 := Qt8.2
    replace pt8 := Qt8.1
    replace lt8 := Nat.le_of_lt Qt8.1
    replace qt9 := Qt9.2
    replace pt9 := Qt9.1
    replace lt9 := Nat.le_of_lt Qt9.1
    replace qt10 := Qt10.2
    replace pt10 := Qt10.1
    replace lt10 := Nat.le_of_lt Qt10.1
    simp only [World.size_drew] at hs
    have Ho7 : Hid (Sp twoO v11 (v10.heap.size) (v11.heap.size) (d, e) [.slice p71 d.1.length p7k1, .slice p72 d.2.length p7k2, .slice p73 e.1.length p7k3, .slice p74 e.2.length p7k4]) := hs
    clear hs
    have hS2 := bl_step hb hS.size hS
    refine hK.out _ _ (hS2) ?_
    try simp only [Act.put, List.setIfInBounds_toArray, List.set_cons_zero, List.set_cons_succ]
    clear hK K hS
    clear hS2 hb
    refine restK_alone 3 rfl (by kernel_rfl) (by rfl) (fun hS K hK => ?_)
    go_wp2_with fail
    refine (c_eqTwo_o Ho4.out Ho7.out).mono ?_
    rintro e9 v12 ⟨rfl, hb⟩
    have hz7 := hb.size
    replace Qt2 := Qt2.below hb
    replace Qt3 := Qt3.below hb
    replace Qt6 := Qt6.below hb
    replace Qt8 := Qt8.below hb
    replace Qt9 := Qt9.below hb
    replace Qt10 := Qt10.below hb
    replace Ho3a := Lib.hid (Ho3a.out.kp (kp_of_below hb (by (first | (simp; done) | (simp; omega) | omega))))
    replace Ho4 := Lib.hid (Ho4.out.kp (kp_of_below hb (by (first | (simp; done) | (simp; omega) | omega))))
    replace Ho5 := Lib.hid (Ho5.out.kp (kp_of_below hb (by (first | (simp; done) | (simp; omega) | omega))))
    replace Ho6a := Lib.hid (Ho6a.out.kp (kp_of_below hb (by (first | (simp; done) | (simp; omega) | omega))))
    replace Ho7 := Lib.hid (Ho7.out.kp (kp_of_below hb (by (first | (simp; done) | (simp; omega) | omega))))
    replace HB := Lib.hid (bl_step hb HB.out.size HB.out)
    replace qt2 := Qt2.2
    replace pt2 := Qt2.1
    replace lt2 := Nat.le_of_lt Qt2.1
    replace qt3 := Qt3.2
    replace pt3 := Qt3.1
    replace lt3 := Nat.le_of_lt Qt3.1
    replace qt6 := Qt6.2
    replace pt6 := Qt6.1
    replace lt6 := Nat.le_of_lt Qt6.1
    replace qt8 := Qt8.2
    replace pt8 := Qt8.1
    replace lt8 := Nat.le_of_lt Qt8.1
    replace qt9 := Qt9.2
    replace pt9 := Qt9.1
    replace lt9 := Nat.le_of_lt Qt9.1
    replace qt10 := Qt10.2
    replace pt10 := Qt10.1
    replace lt10 := Nat.le_of_lt Qt10.1
    have hS2 := bl_step hb hS.size hS
    refine hK.out _ _ (hS2) ?_
    try simp only [Act.put, List.setIfInBounds_toArray, List.set_cons_zero, List.set_cons_succ]
    clear hK K hS
    clear hS2 hb
    refine restK_pure (v := ?_) 4 rfl (by kernel_rfl) (by kernel_rfl) (by kernel_rfl) (by kernel_rfl) (fun _ _ _ h => h) (by rfl) ?_ ?_
    rotate_left
    · intro w9; go_simp; try with_reducible rfl
    try simp only [Act.put, List.setIfInBounds_toArray, List.set_cons_zero, List.set_cons_succ]
    refine restK_done (by kernel_rfl) (fun hS => ?_)
    go_wp2_with fail
    refine restK_begin [] (by kernel_rfl) ?_
    refine restK_take (v := ?_) 0 rfl (by kernel_rfl) (by kernel_rfl) (by kernel_rfl) (by kernel_rfl) (by kernel_rfl) (by kernel_rfl) (fun _ _ _ h => h) (by rfl) ?_ ?_
    rotate_left
    · intro w9 h9; try dsimp only at h9
      obtain ⟨x9, rfl⟩ := later_of h9
      go_simp; try with_reducible rfl
    try simp only [Act.put, List.setIfInBounds_toArray, List.set_cons_zero, List.set_cons_succ]
    refine restK_take (v := ?_) 1 rfl (by kernel_rfl) (by kernel_rfl) (by kernel_rfl) (by kernel_rfl) (by kernel_rfl) (by kernel_rfl) (fun _ _ _ h => h) (by rfl) ?_ ?_
    rotate_left
    · intro w9 h9; try dsimp only at h9
      obtain ⟨x9, rfl⟩ := later_of h9
      go_simp; try with_reducible rfl
    try simp only [Act.put, List.setIfInBounds_toArray, List.set_cons_zero, List.set_cons_succ]
    refine restK_alone 2 rfl (by kernel_rfl) (by rfl) (fun hS K hK => ?_)
    replace Qt2 := Qt2.drew
    replace Qt3 := Qt3.drew
    replace Qt6 := Qt6.drew
    replace Qt8 := Qt8.drew
    replace Qt9 := Qt9.drew
    replace Qt10 := Qt10.drew
    replace Ho3a := Lib.hid (Ho3a.out.kp (kp_drew kp_refl))
    replace Ho4 := Lib.hid (Ho4.out.kp (kp_drew kp_refl))
    replace Ho5 := Lib.hid (Ho5.out.kp (kp_drew kp_refl))
    replace Ho6a := Lib.hid (Ho6a.out.kp (kp_drew kp_refl))
    replace Ho7 := Lib.hid (Ho7.out.kp (kp_drew kp_refl))
    replace HB := Lib.hid HB.out.drew
    go_wp2_with fail
    refine (c_toHead_o num base time m1 mk1 l _ (HMh.out _ HB.out) (by omega)).mono ?_
    rintro e9 v13 ⟨p81, p8k1, rfl, hs, hb⟩
    have hz8 := hb.size
    simp only [World.size_drew] at hz8
    replace Qt2 := Qt2.below hb
    replace Qt3 := Qt3.below hb
    replace Qt6 := Qt6.below hb
    replace Qt8 := Qt8.below hb
    replace Qt9 := Qt9.below hb
    replace Qt10 := Qt10.below hb
    replace Ho3a := Lib.hid (Ho3a.out.kp (kp_of_below hb (by (first | (simp; done) | (simp; omega) | omega))))
    replace Ho4 := Lib.hid (Ho4.out.kp (kp_of_below hb (by (first | (simp; done) | (simp; omega) | omega))))
    replace Ho5 := Lib.hid (Ho5.out.kp (kp_of_below hb (by (first | (simp; done) | (simp; omega) | omega))))
    replace Ho6a := Lib.hid (Ho6a.out.kp (kp_of_below hb (by (first | (simp; done) | (simp; omega) | omega))))
    replace Ho7 := Lib.hid (Ho7.out.kp (kp_of_below hb (by (first | (simp; done) | (simp; omega) | omega))))
    replace HB := Lib.hid (bl_step hb HB.out.size HB.out)
    replace qt2 := Qt2.2
    replace pt2 := Qt2.1
    replace lt2 := Nat.le_of_lt Qt2.1
    replace qt3 := Qt3.2
    replace pt3 := Qt3.1
    replace lt3 := Nat.le_of_lt Qt3.1
    replace qt6 := Qt6.2
    replace pt6 := Qt6.1
    replace lt6 := Nat.le_of_lt Qt6.1
    replace qt8 := Qt8.2
    replace pt8 := Qt8.1
    replace lt8 := Nat.le_of_lt Qt8.1
    replace qt9 := Qt9.2
    replace pt9 := Qt9.1
    replace lt9 := Nat.le_of_lt Qt9.1
    replace qt10 := Qt10.2
    replace pt10 := Qt10.1
    replace lt10 := Nat.le_of_lt Qt10.1
    simp only [World.size_drew] at hs
    have Ho8 : Hid (Sp marksO v13 (v12.heap.size) (v13.heap.size) l [.slice p81 l.length p8k1]) := hs
    clear hs
    have hS2 := bl_step hb hS.size hS
    refine hK.out _ _ (hS2) ?_
    try simp only [Act.put, List.setIfInBounds_toArray, List.set_cons_zero, List.set_cons_succ]
    clear hK K hS
    clear hS2 hb
    refine restK_alone 3 rfl (by kernel_rfl) (by rfl) (fun hS K hK => ?_)
    go_wp2_with fail
    refine (c_eqHead_o Ho5.out Ho8.out).mono ?_
    rintro e9 v14 ⟨rfl, hb⟩
    have hz9 := hb.size
    replace Qt2 := Qt2.below hb
    replace Qt3 := Qt3.below hb
    replace Qt6 := Qt6.below hb
    replace Qt8 := Qt8.below hb
    replace Qt9 := Qt9.below hb
    replace Qt10 := Qt10.below hb
    replace Ho3a := Lib.hid (Ho3a.out.kp (kp_of_below hb (by (first | (simp; done) | (simp; omega) | omega))))
    replace Ho4 := Lib.hid (Ho4.out.kp (kp_of_below hb (by (first | (simp; done) | (simp; omega) | omega))))
    replace Ho5 := Lib.hid (Ho5.out.kp (kp_of_below hb (by (first | (simp; done) | (simp; omega) | omega))))
    replace Ho6a := Lib.hid (Ho6a.out.kp (kp_of_below hb (by (first | (simp; done) | (simp; omega) | omega))))
    replace Ho7 := Lib.hid (Ho7.out.kp (kp_of_below hb (by (first | (simp; done) | (simp; omega) | omega))))
    replace Ho8 := Lib.hid (Ho8.out.kp (kp_of_below hb (by (first | (simp; done) | (simp; omega) | omega))))
    replace HB := Lib.hid (bl_step hb HB.out.size HB.out)
    replace qt2 := Qt2.2
    replace pt2 := Qt2.1
    replace lt2 := Nat.le_of_lt Qt2.1
    replace qt3 := Qt3.2
    replace pt3 := Qt3.1
    replace lt3 := Nat.le_of_lt Qt3.1
    replace qt6 := Qt6.2
    replace pt6 := Qt6.1
    replace lt6 := Nat.le_of_lt Qt6.1
    replace qt8 := Qt8.2
    replace pt8 := Qt8.1
    replace lt8 := Nat.le_of_lt Qt8.1
    replace qt9 := Qt9.2
    replace pt9 := Qt9.1
    replace lt9 := Nat.le_of_lt Qt9.1
    replace qt10 := Qt10.2
    replace pt10 := Qt10.1
    replace lt10 := Nat.le_of_lt Qt10.1
    have hS2 := bl_step hb hS.size hS
    refine hK.out _ _ (hS2) ?_
    try simp only [Act.put, List.setIfInBounds_toArray, List.set_cons_zero, List.set_cons_succ]
    clear hK K hS
    clear hS2 hb
    refine restK_pure (v := ?_) 4 rfl (by kernel_rfl) (by kernel_rfl) (by kernel_rfl) (by kernel_rfl) (fun _ _ _ h => h) (by rfl) ?_ ?_
    rotate_left
    · intro w9; go_simp; try with_reducible rfl
    try simp only [Act.put, List.setIfInBounds_toArray, List.set_cons_zero, List.set_cons_succ]
    refine restK_done (by kernel_rfl) (fun hS => ?_)
    go_wp2_with fail
    have hc9 := c_markTwo_o (k := 1) Ho4.out (by omega) (by have := hN_de; rw [Hn_de.out]; omega) ⟨HSd.out.1, HSe.out.1⟩
    rw [Hn_de.out] at hc9
    refine hc9.mono ?_
    clear hc9
    rintro e9 v15 ⟨rfl, hs, ho⟩
    have hz10 := ho.size
    have hb9 := HB.out.size
    replace Qt2 := Qt2.out ho (by omega)
    replace Qt3 := Qt3.out ho (by omega)
    replace Qt6 := Qt6.out ho (by omega)
    replace Qt8 := Qt8.out ho (by omega)
    replace Qt9 := Qt9.out ho (by omega)
    replace Qt10 := Qt10.out ho (by omega)
    replace Ho3a := Lib.hid (Ho3a.out.kp (ho.kp (by omega) (by (first | (simp; done) | (simp; omega) | omega))))
    replace Ho5 := Lib.hid (Ho5.out.kp (ho.kp (by omega) (by (first | (simp; done) | (simp; omega) | omega))))
    replace Ho6a := Lib.hid (Ho6a.out.kp (ho.kp (by omega) (by (first | (simp; done) | (simp; omega) | omega))))
    replace Ho7 := Lib.hid (Ho7.out.kp (ho.kp (by omega) (by (first | (simp; done) | (simp; omega) | omega))))
    replace Ho8 := Lib.hid (Ho8.out.kp (ho.kp (by omega) (by (first | (simp; done) | (simp; omega) | omega))))
    replace HB := Lib.hid (HB.out.trans (ho.below (by omega) (by (first | (simp; done) | (simp; omega) | omega))))
    clear hb9
    replace qt2 := Qt2.2
    replace pt2 := Qt2.1
    replace lt2 := Nat.le_of_lt Qt2.1
    replace qt3 := Qt3.2
    replace pt3 := Qt3.1
    replace lt3 := Nat.le_of_lt Qt3.1
    replace qt6 := Qt6.2
    replace pt6 := Qt6.1
    replace lt6 := Nat.le_of_lt Qt6.1
    replace qt8 := Qt8.2
    replace pt8 := Qt8.1
    replace lt8 := Nat.le_of_lt Qt8.1
    replace qt9 := Qt9.2
    replace pt9 := Qt9.1
    replace lt9 := Nat.le_of_lt Qt9.1
    replace qt10 := Qt10.2
    replace pt10 := Qt10.1
    replace lt10 := Nat.le_of_lt Qt10.1
    clear Ho4
    have Ho4 : Hid (Sp twoO v15 (v6.heap.size) (v7.heap.size) (mkDisk (1) d, mkDisk (1 + mkSum d) e) [.slice p41 d.1.length p4k1, .slice p42 d.2.length p4k2, .slice p43 e.1.length p4k3, .slice p44 e.2.length p4k4]) := hs
    clear hs
    clear ho
    go_wp2_with fail
    have hc9 := c_markHead_o (num := num) (base := base) (time := time) (k := 1 + ↑n_de) Ho5.out (by omega) (by have := hN_l; rw [Hn_l.out]; omega)
    rw [Hn_l.out] at hc9
    refine hc9.mono ?_
    clear hc9
    rintro e9 v16 ⟨rfl, hs, ho⟩
    have hz11 := ho.size
    have hb9 := HB.out.size
    replace Qt2 := Qt2.out ho (by omega)
    replace Qt3 := Qt3.out ho (by omega)
    replace Qt6 := Qt6.out ho (by omega)
    replace Qt8 := Qt8.out ho (by omega)
    replace Qt9 := Qt9.out ho (by omega)
    replace Qt10 := Qt10.out ho (by omega)
    replace Ho3a := Lib.hid (Ho3a.out.kp (ho.kp (by omega) (by (first | (simp; done) | (simp; omega) | omega))))
    replace Ho4 := Lib.hid (Ho4.out.kp (ho.kp (by omega) (by (first | (simp; done) | (simp; omega) | omega))))
    replace Ho6a := Lib.hid (Ho6a.out.kp (ho.kp (by omega) (by (first | (simp; done) | (simp; omega) | omega))))
    replace Ho7 := Lib.hid (Ho7.out.kp (ho.kp (by omega) (by (first | (simp; done) | (simp; omega) | omega))))
    replace Ho8 := Lib.hid (Ho8.out.kp (ho.kp (by omega) (by (first | (simp; done) | (simp; omega) | omega))))
    replace HB := Lib.hid (HB.out.trans (ho.below (by omega) (by (first | (simp; done) | (simp; omega) | omega))))
    clear hb9
    replace qt2 := Qt2.2
    replace pt2 := Qt2.1
    replace lt2 := Nat.le_of_lt Qt2.1
    replace qt3 := Qt3.2
    replace pt3 := Qt3.1
    replace lt3 := Nat.le_of_lt Qt3.1
    replace qt6 := Qt6.2
    replace pt6 := Qt6.1
    replace lt6 := Nat.le_of_lt Qt6.1
    replace qt8 := Qt8.2
    replace pt8 := Qt8.1
    replace lt8 := Nat.le_of_lt Qt8.1
    replace qt9 := Qt9.2
    replace pt9 := Qt9.1
    replace lt9 := Nat.le_of_lt Qt9.1
    replace qt10 := Qt10.2
    replace pt10 := Qt10.1
    replace lt10 := Nat.le_of_lt Qt10.1
    clear Ho5
    have Ho5 : Hid (Sp marksO v16 (v7.heap.size + 1) (v8.heap.size) ((List.range l.length).map (markMk (1 + ↑n_de))) [.slice p51 l.length p5k1]) := hs
    clear hs
    clear ho
    go_wp2_with fail
    refine (c_eqTwo_o Ho6a.out Ho3a.out).mono ?_
    rintro e9 v17 ⟨rfl, hb⟩
    have hz12 := hb.size
    replace Qt2 := Qt2.below hb
    replace Qt3 := Qt3.below hb
    replace Qt6 := Qt6.below hb
    replace Qt8 := Qt8.below hb
    replace Qt9 := Qt9.below hb
    replace Qt10 := Qt10.below hb
    replace Ho3a := Lib.hid (Ho3a.out.kp (kp_of_below hb (by (first | (simp; done) | (simp; omega) | omega))))
    replace Ho4 := Lib.hid (Ho4.out.kp (kp_of_below hb (by (first | (simp; done) | (simp; omega) | omega))))
    replace Ho5 := Lib.hid (Ho5.out.kp (kp_of_below hb (by (first | (simp; done) | (simp; omega) | omega))))
    replace Ho6a := Lib.hid (Ho6a.out.kp (kp_of_below hb (by (first | (simp; done) | (simp; omega) | omega))))
    replace Ho7 := Lib.hid (Ho7.out.kp (kp_of_below hb (by (first | (simp; done) | (simp; omega) | omega))))
    replace Ho8 := Lib.hid (Ho8.out.kp (kp_of_below hb (by (first | (simp; done) | (simp; omega) | omega))))
    replace HB := Lib.hid (bl_step hb HB.out.size HB.out)
    replace qt2 := Qt2.2
    replace pt2 := Qt2.1
    replace lt2 := Nat.le_of_lt Qt2.1
    replace qt3 := Qt3.2
    replace pt3 := Qt3.1
    replace lt3 := Nat.le_of_lt Qt3.1
    replace qt6 := Qt6.2
    replace pt6 := Qt6.1
    replace lt6 := Nat.le_of_lt Qt6.1
    replace qt8 := Qt8.2
    replace pt8 := Qt8.1
    replace lt8 := Nat.le_of_lt Qt8.1
    replace qt9 := Qt9.2
    replace pt9 := Qt9.1
    replace lt9 := Nat.le_of_lt Qt9.1
    replace qt10 := Qt10.2
    replace pt10 := Qt10.1
    replace lt10 := Nat.le_of_lt Qt10.1
    clear hb
    go_wp2_with fail
    have hc9 := c_markTwo_o (k := 1) Ho6a.out (by omega) (by have := hN_XY; rw [Hn_XY.out]; omega) ⟨HSX.out.1, HSY.out.1⟩
    rw [Hn_XY.out] at hc9
    refine hc9.mono ?_
    clear hc9
    rintro e9 v18 ⟨rfl, hs, ho⟩
    have hz13 := ho.size
    have hb9 := HB.out.size
    replace Qt2 := Qt2.out ho (by omega)
    replace Qt3 := Qt3.out ho (by omega)
    replace Qt6 := Qt6.out ho (by omega)
    replace Qt8 := Qt8.out ho (by omega)
    replace Qt9 := Qt9.out ho (by omega)
    replace Qt10 := Qt10.out ho (by omega)
    replace Ho3a := Lib.hid (Ho3a.out.kp (ho.kp (by omega) (by (first | (simp; done) | (simp; omega) | omega))))
    replace Ho4 := Lib.hid (Ho4.out.kp (ho.kp (by omega) (by (first | (simp; done) | (simp; omega) | omega))))
    replace Ho5 := Lib.hid (Ho5.out.kp (ho.kp (by omega) (by (first | (simp; done) | (simp; omega) | omega))))
    replace Ho7 := Lib.hid (Ho7.out.kp (ho.kp (by omega) (by (first | (simp; done) | (simp; omega) | omega))))
    replace Ho8 := Lib.hid (Ho8.out.kp (ho.kp (by omega) (by (first | (simp; done) | (simp; omega) | omega))))
    replace HB := Lib.hid (HB.out.trans (ho.below (by omega) (by (first | (simp; done) | (simp; omega) | omega))))
    clear hb9
    replace qt2 := Qt2.2
    replace pt2 := Qt2.1
    replace lt2 := Nat.le_of_lt Qt2.1
    replace qt3 := Qt3.2
    replace pt3 := Qt3.1
    replace lt3 := Nat.le_of_lt Qt3.1
    replace qt6 := Qt6.2
    replace pt6 := Qt6.1
    replace lt6 := Nat.le_of_lt Qt6.1
    replace qt8 := Qt8.2
    replace pt8 := Qt8.1
    replace lt8 := Nat.le_of_lt Qt8.1
    replace qt9 := Qt9.2
    replace pt9 := Qt9.1
    replace lt9 := Nat.le_of_lt Qt9.1
    replace qt10 := Qt10.2
    replace pt10 := Qt10.1
    replace lt10 := Nat.le_of_lt Qt10.1
    clear Ho6a
    have Ho6a : Hid (Sp twoO v18 (v8.heap.size + 1) (v9.heap.size) (mkDisk (1) X, mkDisk (1 + mkSum X) Y) [.slice p6a1 X.1.length p6ak1, .slice p6a2 X.2.length p6ak2, .slice p6a3 Y.1.length p6ak3, .slice p6a4 Y.2.length p6ak4]) := hs
    clear hs
    clear ho
    go_wp2_with fail
    have hc9 := c_heldTwo_o (k := 1) Ho6a.out (by omega) (by have := hN_XY; rw [Hn_XY.out]; omega) ⟨HSX.out.1, HSY.out.1⟩
    rw [Hn_XY.out] at hc9
    refine hc9.mono ?_
    clear hc9
    rintro e9 v19 ⟨rfl, hb⟩
    have hz14 := hb.size
    replace Qt2 := Qt2.below hb
    replace Qt3 := Qt3.below hb
    replace Qt6 := Qt6.below hb
    replace Qt8 := Qt8.below hb
    replace Qt9 := Qt9.below hb
    replace Qt10 := Qt10.below hb
    replace Ho3a := Lib.hid (Ho3a.out.kp (kp_of_below hb (by (first | (simp; done) | (simp; omega) | omega))))
    replace Ho4 := Lib.hid (Ho4.out.kp (kp_of_below hb (by (first | (simp; done) | (simp; omega) | omega))))
    replace Ho5 := Lib.hid (Ho5.out.kp (kp_of_below hb (by (first | (simp; done) | (simp; omega) | omega))))
    replace Ho6a := Lib.hid (Ho6a.out.kp (kp_of_below hb (by (first | (simp; done) | (simp; omega) | omega))))
    replace Ho7 := Lib.hid (Ho7.out.kp (kp_of_below hb (by (first | (simp; done) | (simp; omega) | omega))))
    replace Ho8 := Lib.hid (Ho8.out.kp (kp_of_below hb (by (first | (simp; done) | (simp; omega) | omega))))
    replace HB := Lib.hid (bl_step hb HB.out.size HB.out)
    replace qt2 := Qt2.2
    replace pt2 := Qt2.1
    replace lt2 := Nat.le_of_lt Qt2.1
    replace qt3 := Qt3.2
    replace pt3 := Qt3.1
    replace lt3 := Nat.le_of_lt Qt3.1
    replace qt6 := Qt6.2
    replace pt6 := Qt6.1
    replace lt6 := Nat.le_of_lt Qt6.1
    replace qt8 := Qt8.2
    replace pt8 := Qt8.1
    replace lt8 := Nat.le_of_lt Qt8.1
    replace qt9 := Qt9.2
    replace pt9 := Qt9.1
    replace lt9 := Nat.le_of_lt Qt9.1
    replace qt10 := Qt10.2
    replace pt10 := Qt10.1
    replace lt10 := Nat.le_of_lt Qt10.1
    clear hb
    go_upto_region 31 with fail
    go_cut [15, 16] (fun s15 s16 wx => ∃ (B15 : Nat) (p11a1 : Option Addr) (p11ak1 : Nat) (p11a2 : Option Addr) (p11ak2 : Nat) (p11a3 : Option Addr) (p11ak3 : Nat) (p11a4 : Option Addr) (p11ak4 : Nat) (loo11a hio11a : Nat), s15 = .pointer (some ⟨B15, 0, none⟩) ∧ s16 = .bool f ∧ Bx wx B15 [.slice p11a1 X.1.length p11ak1, .slice p11a2 X.2.length p11ak2, .slice p11a3 Y.1.length p11ak3, .slice p11a4 Y.2.length p11ak4] ∧ Bx wx (w.heap.size) [.slice a1 d.1.length ak1, .slice a2 d.2.length ak2, .slice a3 e.1.length ak3, .slice a4 e.2.length ak4] ∧ Bx wx (w.heap.size + 1) [.int .i64 num, .int .i64 base, .int .i64 time, .slice m1 l.length mk1] ∧ Bx wx (B6) [.slice p3a1 X.1.length p3ak1, .slice p3a2 X.2.length p3ak2, .slice p3a3 Y.1.length p3ak3, .slice p3a4 Y.2.length p3ak4] ∧ Bx wx (v7.heap.size) [.slice p41 d.1.length p4k1, .slice p42 d.2.length p4k2, .slice p43 e.1.length p4k3, .slice p44 e.2.length p4k4] ∧ Bx wx (v8.heap.size) [.int .i64 num, .int .i64 base, .int .i64 time, .slice p51 l.length p5k1] ∧ Bx wx (v9.heap.size) [.slice p6a1 X.1.length p6ak1, .slice p6a2 X.2.length p6ak2, .slice p6a3 Y.1.length p6ak3, .slice p6a4 Y.2.length p6ak4] ∧ Hid (Sp twoO wx (loo3a) (hio3a) (X, Y) [.slice p3a1 X.1.length p3ak1, .slice p3a2 X.2.length p3ak2, .slice p3a3 Y.1.length p3ak3, .slice p3a4 Y.2.length p3ak4]) ∧ Hid (Sp twoO wx (v6.heap.size) (v7.heap.size) (mkDisk (1) d, mkDisk (1 + mkSum d) e) [.slice p41 d.1.length p4k1, .slice p42 d.2.length p4k2, .slice p43 e.1.length p4k3, .slice p44 e.2.length p4k4]) ∧ Hid (Sp marksO wx (v7.heap.size + 1) (v8.heap.size) ((List.range l.length).map (markMk (1 + ↑n_de))) [.slice p51 l.length p5k1]) ∧ Hid (Sp twoO wx (v8.heap.size + 1) (v9.heap.size) (mkDisk (1) X, mkDisk (1 + mkSum X) Y) [.slice p6a1 X.1.length p6ak1, .slice p6a2 X.2.length p6ak2, .slice p6a3 Y.1.length p6ak3, .slice p6a4 Y.2.length p6ak4]) ∧ Hid (Sp twoO wx (v10.heap.size) (v11.heap.size) (d, e) [.slice p71 d.1.length p7k1, .slice p72 d.2.length p7k2, .slice p73 e.1.length p7k3, .slice p74 e.2.length p7k4]) ∧ Hid (Sp marksO wx (v12.heap.size) (v13.heap.size) l [.slice p81 l.length p8k1]) ∧ Hid (Sp twoO wx (loo11a) (hio11a) (X, Y) [.slice p11a1 X.1.length p11ak1, .slice p11a2 X.2.length p11ak2, .slice p11a3 Y.1.length p11ak3, .slice p11a4 Y.2.length p11ak4]) ∧ v19.heap.size ≤ B15 ∧ v19.heap.size ≤ loo11a ∧ loo11a ≤ hio11a ∧ hio11a ≤ wx.heap.size ∧ (B15 < loo11a ∨ hio11a ≤ B15) ∧ v19.heap.size ≤ wx.heap.size ∧ Hid (Below w.heap.size w wx))
    case first =>
      refine restK_begin [9] (by kernel_rfl) ?_
      refine restK_take (v := ?_) 0 rfl (by kernel_rfl) (by kernel_rfl) (by kernel_rfl) (by kernel_rfl) (by kernel_rfl) (by kernel_rfl) (fun _ _ _ h => h) (by rfl) ?_ ?_
      rotate_left
      · intro w9 h9; try dsimp only at h9
        obtain ⟨x9, rfl⟩ := later_of h9
        go_simp; try with_reducible rfl
      try simp only [Act.put, List.setIfInBounds_toArray, List.set_cons_zero, List.set_cons_succ]
      refine restK_take (v := ?_) 2 rfl (by kernel_rfl) (by kernel_rfl) (by kernel_rfl) (by kernel_rfl) (by kernel_rfl) (by kernel_rfl) (fun _ _ _ h => h) (by rfl) ?_ ?_
      rotate_left
      · intro w9 h9; try dsimp only at h9
        obtain ⟨x9, rfl⟩ := later_of h9
        go_simp; try with_reducible rfl
      try simp only [Act.put, List.setIfInBounds_toArray, List.set_cons_zero, List.set_cons_succ]
      refine restK_two 1 8 rfl rfl (by kernel_rfl) (by rfl) (by rfl) (fun hS K hK => ?_) (fun hS K hK => ?_)
      · skip
        replace Qt2 := Qt2.drew
        replace Qt3 := Qt3.drew
        replace Qt6 := Qt6.drew
        replace Qt8 := Qt8.drew
        replace Qt9 := Qt9.drew
        replace Qt10 := Qt10.drew
        replace Ho3a := Lib.hid (Ho3a.out.kp (kp_drew kp_refl))
        replace Ho4 := Lib.hid (Ho4.out.kp (kp_drew kp_refl))
        replace Ho5 := Lib.hid (Ho5.out.kp (kp_drew kp_refl))
        replace Ho6a := Lib.hid (Ho6a.out.kp (kp_drew kp_refl))
        replace Ho7 := Lib.hid (Ho7.out.kp (kp_drew kp_refl))
        replace Ho8 := Lib.hid (Ho8.out.kp (kp_drew kp_refl))
        replace HB := Lib.hid HB.out.drew
        go_wp2_with fail
        refine (c_toTwo a1 a2 a3 a4 ak1 ak2 ak3 ak4 d e _ (HD.out _ HB.out) (HE.out _ HB.out) HSd.out.1 HSe.out.1).mono ?_
        rintro e9 v20 ⟨p91, p9k1, p92, p9k2, p93, p9k3, p94, p9k4, rfl, hs, hb⟩
        have hz15 := hb.size
        simp only [World.size_drew] at hz15
        replace Qt2 := Qt2.below hb
        replace Qt3 := Qt3.below hb
        replace Qt6 := Qt6.below hb
        replace Qt8 := Qt8.below hb
        replace Qt9 := Qt9.below hb
        replace Qt10 := Qt10.below hb
        replace Ho3a := Lib.hid (Ho3a.out.kp (kp_of_below hb (by (first | (simp; done) | (simp; omega) | omega))))
        replace Ho4 := Lib.hid (Ho4.out.kp (kp_of_below hb (by (first | (simp; done) | (simp; omega) | omega))))
        replace Ho5 := Lib.hid (Ho5.out.kp (kp_of_below hb (by (first | (simp; done) | (simp; omega) | omega))))
        replace Ho6a := Lib.hid (Ho6a.out.kp (kp_of_below hb (by (first | (simp; done) | (simp; omega) | omega))))
        replace Ho7 := Lib.hid (Ho7.out.kp (kp_of_below hb (by (first | (simp; done) | (simp; omega) | omega))))
        replace Ho8 := Lib.hid (Ho8.out.kp (kp_of_below hb (by (first | (simp; done) | (simp; omega) | omega))))
        replace HB := Lib.hid (bl_step hb HB.out.size HB.out)
        replace qt2 := Qt2.2
        replace pt2 := Qt2.1
        replace lt2 := Nat.le_of_lt Qt2.1
        replace qt3 := Qt3.2
        replace pt3 := Qt3.1
        replace lt3 := Nat.le_of_lt Qt3.1
        replace qt6 := Qt6.2
        replace pt6 := Qt6.1
        replace lt6 := Nat.le_of_lt Qt6.1
        replace qt8 := Qt8.2
        replace pt8 := Qt8.1
        replace lt8 := Nat.le_of_lt Qt8.1
        replace qt9 := Qt9.2
        replace pt9 := Qt9.1
        replace lt9 := Nat.le_of_lt Qt9.1
        replace qt10 := Qt10.2
        replace pt10 := Qt10.1
        replace lt10 := Nat.le_of_lt Qt10.1
        simp only [World.size_drew] at hs
        have Ho9 : Hid (Sp twoO v20 (v19.heap.size) (v20.heap.size) (d, e) [.slice p91 d.1.length p9k1, .slice p92 d.2.length p9k2, .slice p93 e.1.length p9k3, .slice p94 e.2.length p9k4]) := hs
        clear hs
        have hS2 := bl_step hb hS.size hS
        refine hK.out _ _ (hS2) ?_
        try simp only [Act.put, List.setIfInBounds_toArray, List.set_cons_zero, List.set_cons_succ]
        clear hK K hS
        clear hS2 hb
        refine restK_two 3 8 rfl rfl (by kernel_rfl) (by rfl) (by rfl) (fun hS K hK => ?_) (fun hS K hK => ?_)
        · skip
          go_wp2_with fail
          refine (c_toHead_o num base time m1 mk1 l _ (HMh.out _ HB.out) (by omega)).mono ?_
          rintro e9 v21 ⟨p101, p10k1, rfl, hs, hb⟩
          have hz16 := hb.size
          replace Qt2 := Qt2.below hb
          replace Qt3 := Qt3.below hb
          replace Qt6 := Qt6.below hb
          replace Qt8 := Qt8.below hb
          replace Qt9 := Qt9.below hb
          replace Qt10 := Qt10.below hb
          replace Ho3a := Lib.hid (Ho3a.out.kp (kp_of_below hb (by (first | (simp; done) | (simp; omega) | omega))))
          replace Ho4 := Lib.hid (Ho4.out.kp (kp_of_below hb (by (first | (simp; done) | (simp; omega) | omega))))
          replace Ho5 := Lib.hid (Ho5.out.kp (kp_of_below hb (by (first | (simp; done) | (simp; omega) | omega))))
          replace Ho6a := Lib.hid (Ho6a.out.kp (kp_of_below hb (by (first | (simp; done) | (simp; omega) | omega))))
          replace Ho7 := Lib.hid (Ho7.out.kp (kp_of_below hb (by (first | (simp; done) | (simp; omega) | omega))))
          replace Ho8 := Lib.hid (Ho8.out.kp (kp_of_below hb (by (first | (simp; done) | (simp; omega) | omega))))
          replace Ho9 := Lib.hid (Ho9.out.kp (kp_of_below hb (by (first | (simp; done) | (simp; omega) | omega))))
          replace HB := Lib.hid (bl_step hb HB.out.size HB.out)
          replace qt2 := Qt2.2
          replace pt2 := Qt2.1
          replace lt2 := Nat.le_of_lt Qt2.1
          replace qt3 := Qt3.2
          replace pt3 := Qt3.1
          replace lt3 := Nat.le_of_lt Qt3.1
          replace qt6 := Qt6.2
          replace pt6 := Qt6.1
          replace lt6 := Nat.le_of_lt Qt6.1
          replace qt8 := Qt8.2
          replace pt8 := Qt8.1
          replace lt8 := Nat.le_of_lt Qt8.1
          replace qt9 := Qt9.2
          replace pt9 := Qt9.1
          replace lt9 := Nat.le_of_lt Qt9.1
          replace qt10 := Qt10.2
          replace pt10 := Qt10.1
          replace lt10 := Nat.le_of_lt Qt10.1
          have Ho10 : Hid (Sp marksO v21 (v20.heap.size) (v21.heap.size) l [.slice p101 l.length p10k1]) := hs
          clear hs
          have hS2 := bl_step hb hS.size hS
          refine hK.out _ _ (hS2) ?_
          try simp only [Act.put, List.setIfInBounds_toArray, List.set_cons_zero, List.set_cons_succ]
          clear hK K hS
          clear hS2 hb
          refine restK_two 4 8 rfl rfl (by kernel_rfl) (by rfl) (by rfl) (fun hS K hK => ?_) (fun hS K hK => ?_)
          · skip
            go_wp2_with fail
            refine (KI.out p91 p92 p93 p94 p9k1 p9k2 p9k3 p9k4 p101 p10k1 _ (Ho9.out).two.1 (Ho9.out).two.2 (Ho10.out).marksR).mono ?_
            rintro e9 v22 ⟨p11a1, p11ak1, p11a2, p11ak2, p11a3, p11ak3, p11a4, p11ak4, rfl, hs, hb⟩
            have hz17 := hb.size
            replace Qt2 := Qt2.below hb
            replace Qt3 := Qt3.below hb
            replace Qt6 := Qt6.below hb
            replace Qt8 := Qt8.below hb
            replace Qt9 := Qt9.below hb
            replace Qt10 := Qt10.below hb
            replace Ho3a := Lib.hid (Ho3a.out.kp (kp_of_below hb (by (first | (simp; done) | (simp; omega) | omega))))
            replace Ho4 := Lib.hid (Ho4.out.kp (kp_of_below hb (by (first | (simp; done) | (simp; omega) | omega))))
            replace Ho5 := Lib.hid (Ho5.out.kp (kp_of_below hb (by (first | (simp; done) | (simp; omega) | omega))))
            replace Ho6a := Lib.hid (Ho6a.out.kp (kp_of_below hb (by (first | (simp; done) | (simp; omega) | omega))))
            replace Ho7 := Lib.hid (Ho7.out.kp (kp_of_below hb (by (first | (simp; done) | (simp; omega) | omega))))
            replace Ho8 := Lib.hid (Ho8.out.kp (kp_of_below hb (by (first | (simp; done) | (simp; omega) | omega))))
            replace Ho9 := Lib.hid (Ho9.out.kp (kp_of_below hb (by (first | (simp; done) | (simp; omega) | omega))))
            replace Ho10 := Lib.hid (Ho10.out.kp (kp_of_below hb (by (first | (simp; done) | (simp; omega) | omega))))
            replace HB := Lib.hid (bl_step hb HB.out.size HB.out)
            replace qt2 := Qt2.2
            replace pt2 := Qt2.1
            replace lt2 := Nat.le_of_lt Qt2.1
            replace qt3 := Qt3.2
            replace pt3 := Qt3.1
            replace lt3 := Nat.le_of_lt Qt3.1
            replace qt6 := Qt6.2
            replace pt6 := Qt6.1
            replace lt6 := Nat.le_of_lt Qt6.1
            replace qt8 := Qt8.2
            replace pt8 := Qt8.1
            replace lt8 := Nat.le_of_lt Qt8.1
            replace qt9 := Qt9.2
            replace pt9 := Qt9.1
            replace lt9 := Nat.le_of_lt Qt9.1
            replace qt10 := Qt10.2
            replace pt10 := Qt10.1
            replace lt10 := Nat.le_of_lt Qt10.1
            dsimp only at hs
            have Ho11a : Hid (Sp twoO v22 (v21.heap.size) (v22.heap.size) (X, Y) [.slice p11a1 X.1.length p11ak1, .slice p11a2 X.2.length p11ak2, .slice p11a3 Y.1.length p11ak3, .slice p11a4 Y.2.length p11ak4]) := hs
            clear hs
            have hS2 := bl_step hb hS.size hS
            refine hK.out _ _ hS2 ?_
            clear hK K hS
            clear hS2 hb
            refine restK_pure (v := ?_) 5 rfl (by kernel_rfl) (by kernel_rfl) (by kernel_rfl) (by kernel_rfl) (fun _ _ _ h => h) (by rfl) ?_ ?_
            rotate_left
            · intro w9; go_simp; try with_reducible rfl
            try simp only [Act.put, List.setIfInBounds_toArray, List.set_cons_zero, List.set_cons_succ]
            refine restK_pure (v := ?_) 6 rfl (by kernel_rfl) (by kernel_rfl) (by kernel_rfl) (by kernel_rfl) (fun _ _ _ h => h) (by rfl) ?_ ?_
            rotate_left
            · intro w9; go_simp; try with_reducible rfl
            try simp only [Act.put, List.setIfInBounds_toArray, List.set_cons_zero, List.set_cons_succ]
            refine restK_pure (v := ?_) 7 rfl (by kernel_rfl) (by kernel_rfl) (by kernel_rfl) (by kernel_rfl) (fun _ _ _ h => h) (by rfl) ?_ ?_
            rotate_left
            · intro w9; go_simp; try with_reducible rfl
            try simp only [Act.put, List.setIfInBounds_toArray, List.set_cons_zero, List.set_cons_succ]
            refine restK_alone 8 rfl (by kernel_rfl) (by rfl) (fun hS K hK => ?_)
            go_wp2_with fail
            have hS2 := hS.alloc hS.size (.cells ([.slice none 0 0, .slice none 0 0, .slice none 0 0, .slice none 0 0] : List Value).toArray 37)
            refine hK.out _ _ (hS2) ?_
            try simp only [Act.put, List.setIfInBounds_toArray, List.set_cons_zero, List.set_cons_succ]
            clear hK K hS
            clear hS2
            refine restK_break 9 rfl (by kernel_rfl) (by rfl) (by kernel_rfl) (fun hS K hK => ?_)
            go_wp2_with fail
            replace Qt2 := Qt2.alloc (.cells ([.slice p11a1 X.1.length p11ak1, .slice p11a2 X.2.length p11ak2, .slice p11a3 Y.1.length p11ak3, .slice p11a4 Y.2.length p11ak4] : List Value).toArray 37)
            replace Qt3 := Qt3.alloc (.cells ([.slice p11a1 X.1.length p11ak1, .slice p11a2 X.2.length p11ak2, .slice p11a3 Y.1.length p11ak3, .slice p11a4 Y.2.length p11ak4] : List Value).toArray 37)
            replace Qt6 := Qt6.alloc (.cells ([.slice p11a1 X.1.length p11ak1, .slice p11a2 X.2.length p11ak2, .slice p11a3 Y.1.length p11ak3, .slice p11a4 Y.2.length p11ak4] : List Value).toArray 37)
            replace Qt8 := Qt8.alloc (.cells ([.slice p11a1 X.1.length p11ak1, .slice p11a2 X.2.length p11ak2, .slice p11a3 Y.1.length p11ak3, .slice p11a4 Y.2.length p11ak4] : List Value).toArray 37)
            replace Qt9 := Qt9.alloc (.cells ([.slice p11a1 X.1.length p11ak1, .slice p11a2 X.2.length p11ak2, .slice p11a3 Y.1.length p11ak3, .slice p11a4 Y.2.length p11ak4] : List Value).toArray 37)
            replace Qt10 := Qt10.alloc (.cells ([.slice p11a1 X.1.length p11ak1, .slice p11a2 X.2.length p11ak2, .slice p11a3 Y.1.length p11ak3, .slice p11a4 Y.2.length p11ak4] : List Value).toArray 37)
            replace Ho3a := Lib.hid (Ho3a.out.kp (kp_alloc (o := (.cells ([.slice p11a1 X.1.length p11ak1, .slice p11a2 X.2.length p11ak2, .slice p11a3 Y.1.length p11ak3, .slice p11a4 Y.2.length p11ak4] : List Value).toArray 37)) (by (first | (simp; done) | (simp; omega) | omega)) kp_refl))
            replace Ho4 := Lib.hid (Ho4.out.kp (kp_alloc (o := (.cells ([.slice p11a1 X.1.length p11ak1, .slice p11a2 X.2.length p11ak2, .slice p11a3 Y.1.length p11ak3, .slice p11a4 Y.2.length p11ak4] : List Value).toArray 37)) (by (first | (simp; done) | (simp; omega) | omega)) kp_refl))
            replace Ho5 := Lib.hid (Ho5.out.kp (kp_alloc (o := (.cells ([.slice p11a1 X.1.length p11ak1, .slice p11a2 X.2.length p11ak2, .slice p11a3 Y.1.length p11ak3, .slice p11a4 Y.2.length p11ak4] : List Value).toArray 37)) (by (first | (simp; done) | (simp; omega) | omega)) kp_refl))
            replace Ho6a := Lib.hid (Ho6a.out.kp (kp_alloc (o := (.cells ([.slice p11a1 X.1.length p11ak1, .slice p11a2 X.2.length p11ak2, .slice p11a3 Y.1.length p11ak3, .slice p11a4 Y.2.length p11ak4] : List Value).toArray 37)) (by (first | (simp; done) | (simp; omega) | omega)) kp_refl))
            replace Ho7 := Lib.hid (Ho7.out.kp (kp_alloc (o := (.cells ([.slice p11a1 X.1.length p11ak1, .slice p11a2 X.2.length p11ak2, .slice p11a3 Y.1.length p11ak3, .slice p11a4 Y.2.length p11ak4] : List Value).toArray 37)) (by (first | (simp; done) | (simp; omega) | omega)) kp_refl))
            replace Ho8 := Lib.hid (Ho8.out.kp (kp_alloc (o := (.cells ([.slice p11a1 X.1.length p11ak1, .slice p11a2 X.2.length p11ak2, .slice p11a3 Y.1.length p11ak3, .slice p11a4 Y.2.length p11ak4] : List Value).toArray 37)) (by (first | (simp; done) | (simp; omega) | omega)) kp_refl))
            replace Ho9 := Lib.hid (Ho9.out.kp (kp_alloc (o := (.cells ([.slice p11a1 X.1.length p11ak1, .slice p11a2 X.2.length p11ak2, .slice p11a3 Y.1.length p11ak3, .slice p11a4 Y.2.length p11ak4] : List Value).toArray 37)) (by (first | (simp; done) | (simp; omega) | omega)) kp_refl))
            replace Ho10 := Lib.hid (Ho10.out.kp (kp_alloc (o := (.cells ([.slice p11a1 X.1.length p11ak1, .slice p11a2 X.2.length p11ak2, .slice p11a3 Y.1.length p11ak3, .slice p11a4 Y.2.length p11ak4] : List Value).toArray 37)) (by (first | (simp; done) | (simp; omega) | omega)) kp_refl))
            replace Ho11a := Lib.hid (Ho11a.out.kp (kp_alloc (o := (.cells ([.slice p11a1 X.1.length p11ak1, .slice p11a2 X.2.length p11ak2, .slice p11a3 Y.1.length p11ak3, .slice p11a4 Y.2.length p11ak4] : List Value).toArray 37)) (by (first | (simp; done) | (simp; omega) | omega)) kp_refl))
            have Qt15 := Bx.new v22 [.slice p11a1 X.1.length p11ak1, .slice p11a2 X.2.length p11ak2, .slice p11a3 Y.1.length p11ak3, .slice p11a4 Y.2.length p11ak4] 37
            replace HB := Lib.hid (HB.out.alloc HB.out.size (.cells ([.slice p11a1 X.1.length p11ak1, .slice p11a2 X.2.length p11ak2, .slice p11a3 Y.1.length p11ak3, .slice p11a4 Y.2.length p11ak4] : List Value).toArray 37))
            have hz9 := Qt15.1
            simp only [World.size_alloc] at hz9
            refine hK.out _ _ trivial ?_
            clear hK K hS
            refine rest_take (v := ?_) 10 rfl (by kernel_rfl) (by kernel_rfl) (by kernel_rfl) (fun _ _ _ h => h) (by rfl) ?_ ?_
            rotate_left
            · intro w9; go_simp; try with_reducible rfl
            try simp only [Act.put, List.setIfInBounds_toArray, List.set_cons_zero, List.set_cons_succ]
            refine rest_done (by kernel_rfl) ?_
            go_wp2_with fail
            go_meet
            exact ⟨v22.heap.size, p11a1, p11ak1, p11a2, p11ak2, p11a3, p11ak3, p11a4, p11ak4, v21.heap.size, v22.heap.size, rfl, rfl, Qt15, Qt2, Qt3, Qt6, Qt8, Qt9, Qt10, Ho3a, Ho4, Ho5, Ho6a, Ho7, Ho8, Ho11a, by (first | (simp; done) | (simp; omega) | omega), by (first | (simp; done) | (simp; omega) | omega), by (first | (simp; done) | (simp; omega) | omega), by (first | (simp; done) | (simp; omega) | omega), by (first | (simp; done) | (simp; omega) | omega), by have := hz9; (first | (simp; done) | (simp; omega) | omega), HB⟩
          · skip
            go_wp2_with fail
            have FB := Fx.new v21 [.slice none 0 0, .slice none 0 0, .slice none 0 0, .slice none 0 0] 37
            replace Qt2 := Qt2.alloc (.cells ([.slice none 0 0, .slice none 0 0, .slice none 0 0, .slice none 0 0] : List Value).toArray 37)
            replace Qt3 := Qt3.alloc (.cells ([.slice none 0 0, .slice none 0 0, .slice none 0 0, .slice none 0 0] : List Value).toArray 37)
            replace Qt6 := Qt6.alloc (.cells ([.slice none 0 0, .slice none 0 0, .slice none 0 0, .slice none 0 0] : List Value).toArray 37)
            replace Qt8 := Qt8.alloc (.cells ([.slice none 0 0, .slice none 0 0, .slice none 0 0, .slice none 0 0] : List Value).toArray 37)
            replace Qt9 := Qt9.alloc (.cells ([.slice none 0 0, .slice none 0 0, .slice none 0 0, .slice none 0 0] : List Value).toArray 37)
            replace Qt10 := Qt10.alloc (.cells ([.slice none 0 0, .slice none 0 0, .slice none 0 0, .slice none 0 0] : List Value).toArray 37)
            replace Ho3a := Lib.hid (Ho3a.out.kp (kp_alloc (o := (.cells ([.slice none 0 0, .slice none 0 0, .slice none 0 0, .slice none 0 0] : List Value).toArray 37)) (by (first | (simp; done) | (simp; omega) | omega)) kp_refl))
            replace Ho4 := Lib.hid (Ho4.out.kp (kp_alloc (o := (.cells ([.slice none 0 0, .slice none 0 0, .slice none 0 0, .slice none 0 0] : List Value).toArray 37)) (by (first | (simp; done) | (simp; omega) | omega)) kp_refl))
            replace Ho5 := Lib.hid (Ho5.out.kp (kp_alloc (o := (.cells ([.slice none 0 0, .slice none 0 0, .slice none 0 0, .slice none 0 0] : List Value).toArray 37)) (by (first | (simp; done) | (simp; omega) | omega)) kp_refl))
            replace Ho6a := Lib.hid (Ho6a.out.kp (kp_alloc (o := (.cells ([.slice none 0 0, .slice none 0 0, .slice none 0 0, .slice none 0 0] : List Value).toArray 37)) (by (first | (simp; done) | (simp; omega) | omega)) kp_refl))
            replace Ho7 := Lib.hid (Ho7.out.kp (kp_alloc (o := (.cells ([.slice none 0 0, .slice none 0 0, .slice none 0 0, .slice none 0 0] : List Value).toArray 37)) (by (first | (simp; done) | (simp; omega) | omega)) kp_refl))
            replace Ho8 := Lib.hid (Ho8.out.kp (kp_alloc (o := (.cells ([.slice none 0 0, .slice none 0 0, .slice none 0 0, .slice none 0 0] : List Value).toArray 37)) (by (first | (simp; done) | (simp; omega) | omega)) kp_refl))
            replace Ho9 := Lib.hid (Ho9.out.kp (kp_alloc (o := (.cells ([.slice none 0 0, .slice none 0 0, .slice none 0 0, .slice none 0 0] : List Value).toArray 37)) (by (first | (simp; done) | (simp; omega) | omega)) kp_refl))
            replace Ho10 := Lib.hid (Ho10.out.kp (kp_alloc (o := (.cells ([.slice none 0 0, .slice none 0 0, .slice none 0 0, .slice none 0 0] : List Value).toArray 37)) (by (first | (simp; done) | (simp; omega) | omega)) kp_refl))
            have Qt15 := Bx.new v21 [.slice none 0 0, .slice none 0 0, .slice none 0 0, .slice none 0 0] 37
            replace HB := Lib.hid (HB.out.alloc HB.out.size (.cells ([.slice none 0 0, .slice none 0 0, .slice none 0 0, .slice none 0 0] : List Value).toArray 37))
            have hS2 := hS.alloc hS.size (.cells ([.slice none 0 0, .slice none 0 0, .slice none 0 0, .slice none 0 0] : List Value).toArray 37)
            refine hK.out _ _ (hS2) ?_
            try simp only [Act.put, List.setIfInBounds_toArray, List.set_cons_zero, List.set_cons_succ]
            clear hK K hS
            clear hS2
            refine restK_alone 4 rfl (by kernel_rfl) (by rfl) (fun hS K hK => ?_)
            go_wp2_with fail
            refine (KI.out p91 p92 p93 p94 p9k1 p9k2 p9k3 p9k4 p101 p10k1 _ (Ho9.out).two.1 (Ho9.out).two.2 (Ho10.out).marksR).mono ?_
            rintro e9 v22 ⟨p11a1, p11ak1, p11a2, p11ak2, p11a3, p11ak3, p11a4, p11ak4, rfl, hs, hb⟩
            have hz17 := hb.size
            simp only [World.size_alloc] at hz17
            replace Qt2 := Qt2.below hb
            replace Qt3 := Qt3.below hb
            replace Qt6 := Qt6.below hb
            replace Qt8 := Qt8.below hb
            replace Qt9 := Qt9.below hb
            replace Qt10 := Qt10.below hb
            replace Qt15 := Qt15.below hb
            replace FB := FB.below hb
            replace Ho3a := Lib.hid (Ho3a.out.kp (kp_of_below hb (by (first | (simp; done) | (simp; omega) | omega))))
            replace Ho4 := Lib.hid (Ho4.out.kp (kp_of_below hb (by (first | (simp; done) | (simp; omega) | omega))))
            replace Ho5 := Lib.hid (Ho5.out.kp (kp_of_below hb (by (first | (simp; done) | (simp; omega) | omega))))
            replace Ho6a := Lib.hid (Ho6a.out.kp (kp_of_below hb (by (first | (simp; done) | (simp; omega) | omega))))
            replace Ho7 := Lib.hid (Ho7.out.kp (kp_of_below hb (by (first | (simp; done) | (simp; omega) | omega))))
            replace Ho8 := Lib.hid (Ho8.out.kp (kp_of_below hb (by (first | (simp; done) | (simp; omega) | omega))))
            replace Ho9 := Lib.hid (Ho9.out.kp (kp_of_below hb (by (first | (simp; done) | (simp; omega) | omega))))
            replace Ho10 := Lib.hid (Ho10.out.kp (kp_of_below hb (by (first | (simp; done) | (simp; omega) | omega))))
            replace HB := Lib.hid (bl_step hb HB.out.size HB.out)
            replace qt2 := Qt2.2
            replace pt2 := Qt2.1
            replace lt2 := Nat.le_of_lt Qt2.1
            replace qt3 := Qt3.2
            replace pt3 := Qt3.1
            replace lt3 := Nat.le_of_lt Qt3.1
            replace qt6 := Qt6.2
            replace pt6 := Qt6.1
            replace lt6 := Nat.le_of_lt Qt6.1
            replace qt8 := Qt8.2
            replace pt8 := Qt8.1
            replace lt8 := Nat.le_of_lt Qt8.1
            replace qt9 := Qt9.2
            replace pt9 := Qt9.1
            replace lt9 := Nat.le_of_lt Qt9.1
            replace qt10 := Qt10.2
            replace pt10 := Qt10.1
            replace lt10 := Nat.le_of_lt Qt10.1
            have qt15 := Qt15.2
            have pt15 := Qt15.1
            have lt15 := Nat.le_of_lt Qt15.1
            simp only [World.size_alloc] at hs
            have Ho11a : Hid (Sp twoO v22 (v21.heap.size + 1) (v22.heap.size) (X, Y) [.slice p11a1 X.1.length p11ak1, .slice p11a2 X.2.length p11ak2, .slice p11a3 Y.1.length p11ak3, .slice p11a4 Y.2.length p11ak4]) := hs
            clear hs
            have hS2 := bl_step hb hS.size hS
            refine hK.out _ _ hS2 ?_
            clear hK K hS
            clear hS2 hb
            refine restK_pure (v := ?_) 5 rfl (by kernel_rfl) (by kernel_rfl) (by kernel_rfl) (by kernel_rfl) (fun _ _ _ h => h) (by rfl) ?_ ?_
            rotate_left
            · intro w9; go_simp; try with_reducible rfl
            try simp only [Act.put, List.setIfInBounds_toArray, List.set_cons_zero, List.set_cons_succ]
            refine restK_pure (v := ?_) 6 rfl (by kernel_rfl) (by kernel_rfl) (by kernel_rfl) (by kernel_rfl) (fun _ _ _ h => h) (by rfl) ?_ ?_
            rotate_left
            · intro w9; go_simp; try with_reducible rfl
            try simp only [Act.put, List.setIfInBounds_toArray, List.set_cons_zero, List.set_cons_succ]
            refine restK_pure (v := ?_) 7 rfl (by kernel_rfl) (by kernel_rfl) (by kernel_rfl) (by kernel_rfl) (fun _ _ _ h => h) (by rfl) ?_ ?_
            rotate_left
            · intro w9; go_simp; try with_reducible rfl
            try simp only [Act.put, List.setIfInBounds_toArray, List.set_cons_zero, List.set_cons_succ]
            refine restK_break 9 rfl (by kernel_rfl) (by rfl) (by kernel_rfl) (fun hS K hK => ?_)
            have fB9 := FB.2
            have hz9 := Qt15.1
            (try simp only [World.size_alloc, World.size_drew] at hz9)
            go_wp2_with fail
            clear fB9
            replace Qt2 := Qt2.setOther ⟨v21.heap.size, 0, none⟩ (.slice p11a1 X.1.length p11ak1) (by (first | (simp; done) | (simp; omega) | omega))
            replace Qt3 := Qt3.setOther ⟨v21.heap.size, 0, none⟩ (.slice p11a1 X.1.length p11ak1) (by (first | (simp; done) | (simp; omega) | omega))
            replace Qt6 := Qt6.setOther ⟨v21.heap.size, 0, none⟩ (.slice p11a1 X.1.length p11ak1) (by (first | (simp; done) | (simp; omega) | omega))
            replace Qt8 := Qt8.setOther ⟨v21.heap.size, 0, none⟩ (.slice p11a1 X.1.length p11ak1) (by (first | (simp; done) | (simp; omega) | omega))
            replace Qt9 := Qt9.setOther ⟨v21.heap.size, 0, none⟩ (.slice p11a1 X.1.length p11ak1) (by (first | (simp; done) | (simp; omega) | omega))
            replace Qt10 := Qt10.setOther ⟨v21.heap.size, 0, none⟩ (.slice p11a1 X.1.length p11ak1) (by (first | (simp; done) | (simp; omega) | omega))
            replace Qt15 := Qt15.set 0 (.slice p11a1 X.1.length p11ak1) (by simp)
            replace Ho3a := Lib.hid (Ho3a.out.kp (kp_set (p := ⟨v21.heap.size, 0, none⟩) (u := .slice p11a1 X.1.length p11ak1) (by (first | (simp; done) | (simp; omega) | omega)) kp_refl))
            replace Ho4 := Lib.hid (Ho4.out.kp (kp_set (p := ⟨v21.heap.size, 0, none⟩) (u := .slice p11a1 X.1.length p11ak1) (by (first | (simp; done) | (simp; omega) | omega)) kp_refl))
            replace Ho5 := Lib.hid (Ho5.out.kp (kp_set (p := ⟨v21.heap.size, 0, none⟩) (u := .slice p11a1 X.1.length p11ak1) (by (first | (simp; done) | (simp; omega) | omega)) kp_refl))
            replace Ho6a := Lib.hid (Ho6a.out.kp (kp_set (p := ⟨v21.heap.size, 0, none⟩) (u := .slice p11a1 X.1.length p11ak1) (by (first | (simp; done) | (simp; omega) | omega)) kp_refl))
            replace Ho7 := Lib.hid (Ho7.out.kp (kp_set (p := ⟨v21.heap.size, 0, none⟩) (u := .slice p11a1 X.1.length p11ak1) (by (first | (simp; done) | (simp; omega) | omega)) kp_refl))
            replace Ho8 := Lib.hid (Ho8.out.kp (kp_set (p := ⟨v21.heap.size, 0, none⟩) (u := .slice p11a1 X.1.length p11ak1) (by (first | (simp; done) | (simp; omega) | omega)) kp_refl))
            replace Ho9 := Lib.hid (Ho9.out.kp (kp_set (p := ⟨v21.heap.size, 0, none⟩) (u := .slice p11a1 X.1.length p11ak1) (by (first | (simp; done) | (simp; omega) | omega)) kp_refl))
            replace Ho10 := Lib.hid (Ho10.out.kp (kp_set (p := ⟨v21.heap.size, 0, none⟩) (u := .slice p11a1 X.1.length p11ak1) (by (first | (simp; done) | (simp; omega) | omega)) kp_refl))
            replace Ho11a := Lib.hid (Ho11a.out.kp (kp_set (p := ⟨v21.heap.size, 0, none⟩) (u := .slice p11a1 X.1.length p11ak1) (by (first | (simp; done) | (simp; omega) | omega)) kp_refl))
            replace HB := Lib.hid (HB.out.setCell (p := ⟨v21.heap.size, 0, none⟩) (by have := HB.out.size; (first | (simp; done) | (simp; omega) | omega)) (.slice p11a1 X.1.length p11ak1))
            replace Qt2 := Qt2.setOther ⟨v21.heap.size, 1, none⟩ (.slice p11a2 X.2.length p11ak2) (by (first | (simp; done) | (simp; omega) | omega))
            replace Qt3 := Qt3.setOther ⟨v21.heap.size, 1, none⟩ (.slice p11a2 X.2.length p11ak2) (by (first | (simp; done) | (simp; omega) | omega))
            replace Qt6 := Qt6.setOther ⟨v21.heap.size, 1, none⟩ (.slice p11a2 X.2.length p11ak2) (by (first | (simp; done) | (simp; omega) | omega))
            replace Qt8 := Qt8.setOther ⟨v21.heap.size, 1, none⟩ (.slice p11a2 X.2.length p11ak2) (by (first | (simp; done) | (simp; omega) | omega))
            replace Qt9 := Qt9.setOther ⟨v21.heap.size, 1, none⟩ (.slice p11a2 X.2.length p11ak2) (by (first | (simp; done) | (simp; omega) | omega))
            replace Qt10 := Qt10.setOther ⟨v21.heap.size, 1, none⟩ (.slice p11a2 X.2.length p11ak2) (by (first | (simp; done) | (simp; omega) | omega))
            replace Qt15 := Qt15.set 1 (.slice p11a2 X.2.length p11ak2) (by simp)
            replace Ho3a := Lib.hid (Ho3a.out.kp (kp_set (p := ⟨v21.heap.size, 1, none⟩) (u := .slice p11a2 X.2.length p11ak2) (by (first | (simp; done) | (simp; omega) | omega)) kp_refl))
            replace Ho4 := Lib.hid (Ho4.out.kp (kp_set (p := ⟨v21.heap.size, 1, none⟩) (u := .slice p11a2 X.2.length p11ak2) (by (first | (simp; done) | (simp; omega) | omega)) kp_refl))
            replace Ho5 := Lib.hid (Ho5.out.kp (kp_set (p := ⟨v21.heap.size, 1, none⟩) (u := .slice p11a2 X.2.length p11ak2) (by (first | (simp; done) | (simp; omega) | omega)) kp_refl))
            replace Ho6a := Lib.hid (Ho6a.out.kp (kp_set (p := ⟨v21.heap.size, 1, none⟩) (u := .slice p11a2 X.2.length p11ak2) (by (first | (simp; done) | (simp; omega) | omega)) kp_refl))
            replace Ho7 := Lib.hid (Ho7.out.kp (kp_set (p := ⟨v21.heap.size, 1, none⟩) (u := .slice p11a2 X.2.length p11ak2) (by (first | (simp; done) | (simp; omega) | omega)) kp_refl))
            replace Ho8 := Lib.hid (Ho8.out.kp (kp_set (p := ⟨v21.heap.size, 1, none⟩) (u := .slice p11a2 X.2.length p11ak2) (by (first | (simp; done) | (simp; omega) | omega)) kp_refl))
            replace Ho9 := Lib.hid (Ho9.out.kp (kp_set (p := ⟨v21.heap.size, 1, none⟩) (u := .slice p11a2 X.2.length p11ak2) (by (first | (simp; done) | (simp; omega) | omega)) kp_refl))
            replace Ho10 := Lib.hid (Ho10.out.kp (kp_set (p := ⟨v21.heap.size, 1, none⟩) (u := .slice p11a2 X.2.length p11ak2) (by (first | (simp; done) | (simp; omega) | omega)) kp_refl))
            replace Ho11a := Lib.hid (Ho11a.out.kp (kp_set (p := ⟨v21.heap.size, 1, none⟩) (u := .slice p11a2 X.2.length p11ak2) (by (first | (simp; done) | (simp; omega) | omega)) kp_refl))
            replace HB := Lib.hid (HB.out.setCell (p := ⟨v21.heap.size, 1, none⟩) (by have := HB.out.size; (first | (simp; done) | (simp; omega) | omega)) (.slice p11a2 X.2.length p11ak2))
            replace Qt2 := Qt2.setOther ⟨v21.heap.size, 2, none⟩ (.slice p11a3 Y.1.length p11ak3) (by (first | (simp; done) | (simp; omega) | omega))
            replace Qt3 := Qt3.setOther ⟨v21.heap.size, 2, none⟩ (.slice p11a3 Y.1.length p11ak3) (by (first | (simp; done) | (simp; omega) | omega))
            replace Qt6 := Qt6.setOther ⟨v21.heap.size, 2, none⟩ (.slice p11a3 Y.1.length p11ak3) (by (first | (simp; done) | (simp; omega) | omega))
            replace Qt8 := Qt8.setOther ⟨v21.heap.size, 2, none⟩ (.slice p11a3 Y.1.length p11ak3) (by (first | (simp; done) | (simp; omega) | omega))
            replace Qt9 := Qt9.setOther ⟨v21.heap.size, 2, none⟩ (.slice p11a3 Y.1.length p11ak3) (by (first | (simp; done) | (simp; omega) | omega))
            replace Qt10 := Qt10.setOther ⟨v21.heap.size, 2, none⟩ (.slice p11a3 Y.1.length p11ak3) (by (first | (simp; done) | (simp; omega) | omega))
            replace Qt15 := Qt15.set 2 (.slice p11a3 Y.1.length p11ak3) (by simp)
            replace Ho3a := Lib.hid (Ho3a.out.kp (kp_set (p := ⟨v21.heap.size, 2, none⟩) (u := .slice p11a3 Y.1.length p11ak3) (by (first | (simp; done) | (simp; omega) | omega)) kp_refl))
            replace Ho4 := Lib.hid (Ho4.out.kp (kp_set (p := ⟨v21.heap.size, 2, none⟩) (u := .slice p11a3 Y.1.length p11ak3) (by (first | (simp; done) | (simp; omega) | omega)) kp_refl))
            replace Ho5 := Lib.hid (Ho5.out.kp (kp_set (p := ⟨v21.heap.size, 2, none⟩) (u := .slice p11a3 Y.1.length p11ak3) (by (first | (simp; done) | (simp; omega) | omega)) kp_refl))
            replace Ho6a := Lib.hid (Ho6a.out.kp (kp_set (p := ⟨v21.heap.size, 2, none⟩) (u := .slice p11a3 Y.1.length p11ak3) (by (first | (simp; done) | (simp; omega) | omega)) kp_refl))
            replace Ho7 := Lib.hid (Ho7.out.kp (kp_set (p := ⟨v21.heap.size, 2, none⟩) (u := .slice p11a3 Y.1.length p11ak3) (by (first | (simp; done) | (simp; omega) | omega)) kp_refl))
            replace Ho8 := Lib.hid (Ho8.out.kp (kp_set (p := ⟨v21.heap.size, 2, none⟩) (u := .slice p11a3 Y.1.length p11ak3) (by (first | (simp; done) | (simp; omega) | omega)) kp_refl))
            replace Ho9 := Lib.hid (Ho9.out.kp (kp_set (p := ⟨v21.heap.size, 2, none⟩) (u := .slice p11a3 Y.1.length p11ak3) (by (first | (simp; done) | (simp; omega) | omega)) kp_refl))
            replace Ho10 := Lib.hid (Ho10.out.kp (kp_set (p := ⟨v21.heap.size, 2, none⟩) (u := .slice p11a3 Y.1.length p11ak3) (by (first | (simp; done) | (simp; omega) | omega)) kp_refl))
            replace Ho11a := Lib.hid (Ho11a.out.kp (kp_set (p := ⟨v21.heap.size, 2, none⟩) (u := .slice p11a3 Y.1.length p11ak3) (by (first | (simp; done) | (simp; omega) | omega)) kp_refl))
            replace HB := Lib.hid (HB.out.setCell (p := ⟨v21.heap.size, 2, none⟩) (by have := HB.out.size; (first | (simp; done) | (simp; omega) | omega)) (.slice p11a3 Y.1.length p11ak3))
            replace Qt2 := Qt2.setOther ⟨v21.heap.size, 3, none⟩ (.slice p11a4 Y.2.length p11ak4) (by (first | (simp; done) | (simp; omega) | omega))
            replace Qt3 := Qt3.setOther ⟨v21.heap.size, 3, none⟩ (.slice p11a4 Y.2.length p11ak4) (by (first | (simp; done) | (simp; omega) | omega))
            replace Qt6 := Qt6.setOther ⟨v21.heap.size, 3, none⟩ (.slice p11a4 Y.2.length p11ak4) (by (first | (simp; done) | (simp; omega) | omega))
            replace Qt8 := Qt8.setOther ⟨v21.heap.size, 3, none⟩ (.slice p11a4 Y.2.length p11ak4) (by (first | (simp; done) | (simp; omega) | omega))
            replace Qt9 := Qt9.setOther ⟨v21.heap.size, 3, none⟩ (.slice p11a4 Y.2.length p11ak4) (by (first | (simp; done) | (simp; omega) | omega))
            replace Qt10 := Qt10.setOther ⟨v21.heap.size, 3, none⟩ (.slice p11a4 Y.2.length p11ak4) (by (first | (simp; done) | (simp; omega) | omega))
            replace Qt15 := Qt15.set 3 (.slice p11a4 Y.2.length p11ak4) (by simp)
            replace Ho3a := Lib.hid (Ho3a.out.kp (kp_set (p := ⟨v21.heap.size, 3, none⟩) (u := .slice p11a4 Y.2.length p11ak4) (by (first | (simp; done) | (simp; omega) | omega)) kp_refl))
            replace Ho4 := Lib.hid (Ho4.out.kp (kp_set (p := ⟨v21.heap.size, 3, none⟩) (u := .slice p11a4 Y.2.length p11ak4) (by (first | (simp; done) | (simp; omega) | omega)) kp_refl))
            replace Ho5 := Lib.hid (Ho5.out.kp (kp_set (p := ⟨v21.heap.size, 3, none⟩) (u := .slice p11a4 Y.2.length p11ak4) (by (first | (simp; done) | (simp; omega) | omega)) kp_refl))
            replace Ho6a := Lib.hid (Ho6a.out.kp (kp_set (p := ⟨v21.heap.size, 3, none⟩) (u := .slice p11a4 Y.2.length p11ak4) (by (first | (simp; done) | (simp; omega) | omega)) kp_refl))
            replace Ho7 := Lib.hid (Ho7.out.kp (kp_set (p := ⟨v21.heap.size, 3, none⟩) (u := .slice p11a4 Y.2.length p11ak4) (by (first | (simp; done) | (simp; omega) | omega)) kp_refl))
            replace Ho8 := Lib.hid (Ho8.out.kp (kp_set (p := ⟨v21.heap.size, 3, none⟩) (u := .slice p11a4 Y.2.length p11ak4) (by (first | (simp; done) | (simp; omega) | omega)) kp_refl))
            replace Ho9 := Lib.hid (Ho9.out.kp (kp_set (p := ⟨v21.heap.size, 3, none⟩) (u := .slice p11a4 Y.2.length p11ak4) (by (first | (simp; done) | (simp; omega) | omega)) kp_refl))
            replace Ho10 := Lib.hid (Ho10.out.kp (kp_set (p := ⟨v21.heap.size, 3, none⟩) (u := .slice p11a4 Y.2.length p11ak4) (by (first | (simp; done) | (simp; omega) | omega)) kp_refl))
            replace Ho11a := Lib.hid (Ho11a.out.kp (kp_set (p := ⟨v21.heap.size, 3, none⟩) (u := .slice p11a4 Y.2.length p11ak4) (by (first | (simp; done) | (simp; omega) | omega)) kp_refl))
            replace HB := Lib.hid (HB.out.setCell (p := ⟨v21.heap.size, 3, none⟩) (by have := HB.out.size; (first | (simp; done) | (simp; omega) | omega)) (.slice p11a4 Y.2.length p11ak4))
            simp only [List.set_cons_succ, List.set_cons_zero] at Qt15
            refine hK.out _ _ trivial ?_
            clear hK K hS
            refine rest_take (v := ?_) 10 rfl (by kernel_rfl) (by kernel_rfl) (by kernel_rfl) (fun _ _ _ h => h) (by rfl) ?_ ?_
            rotate_left
            · intro w9; go_simp; try with_reducible rfl
            try simp only [Act.put, List.setIfInBounds_toArray, List.set_cons_zero, List.set_cons_succ]
            refine rest_done (by kernel_rfl) ?_
            go_wp2_with fail
            go_meet
            exact ⟨v21.heap.size, p11a1, p11ak1, p11a2, p11ak2, p11a3, p11ak3, p11a4, p11ak4, v21.heap.size + 1, v22.heap.size, rfl, rfl, Qt15, Qt2, Qt3, Qt6, Qt8, Qt9, Qt10, Ho3a, Ho4, Ho5, Ho6a, Ho7, Ho8, Ho11a, by (first | (simp; done) | (simp; omega) | omega), by (first | (simp; done) | (simp; omega) | omega), by (first | (simp; done) | (simp; omega) | omega), by (first | (simp; done) | (simp; omega) | omega), by (first | (simp; done) | (simp; omega) | omega), by have := hz9; (first | (simp; done) | (simp; omega) | omega), HB⟩
        · skip
          go_wp2_with fail
          have FB := Fx.new v20 [.slice none 0 0, .slice none 0 0, .slice none 0 0, .slice none 0 0] 37
          replace Qt2 := Qt2.alloc (.cells ([.slice none 0 0, .slice none 0 0, .slice none 0 0, .slice none 0 0] : List Value).toArray 37)
          replace Qt3 := Qt3.alloc (.cells ([.slice none 0 0, .slice none 0 0, .slice none 0 0, .slice none 0 0] : List Value).toArray 37)
          replace Qt6 := Qt6.alloc (.cells ([.slice none 0 0, .slice none 0 0, .slice none 0 0, .slice none 0 0] : List Value).toArray 37)
          replace Qt8 := Qt8.alloc (.cells ([.slice none 0 0, .slice none 0 0, .slice none 0 0, .slice none 0 0] : List Value).toArray 37)
          replace Qt9 := Qt9.alloc (.cells ([.slice none 0 0, .slice none 0 0, .slice none 0 0, .slice none 0 0] : List Value).toArray 37)
          replace Qt10 := Qt10.alloc (.cells ([.slice none 0 0, .slice none 0 0, .slice none 0 0, .slice none 0 0] : List Value).toArray 37)
          replace Ho3a := Lib.hid (Ho3a.out.kp (kp_alloc (o := (.cells ([.slice none 0 0, .slice none 0 0, .slice none 0 0, .slice none 0 0] : List Value).toArray 37)) (by (first | (simp; done) | (simp; omega) | omega)) kp_refl))
          replace Ho4 := Lib.hid (Ho4.out.kp (kp_alloc (o := (.cells ([.slice none 0 0, .slice none 0 0, .slice none 0 0, .slice none 0 0] : List Value).toArray 37)) (by (first | (simp; done) | (simp; omega) | omega)) kp_refl))
          replace Ho5 := Lib.hid (Ho5.out.kp (kp_alloc (o := (.cells ([.slice none 0 0, .slice none 0 0, .slice none 0 0, .slice none 0 0] : List Value).toArray 37)) (by (first | (simp; done) | (simp; omega) | omega)) kp_refl))
          replace Ho6a := Lib.hid (Ho6a.out.kp (kp_alloc (o := (.cells ([.slice none 0 0, .slice none 0 0, .slice none 0 0, .slice none 0 0] : List Value).toArray 37)) (by (first | (simp; done) | (simp; omega) | omega)) kp_refl))
          replace Ho7 := Lib.hid (Ho7.out.kp (kp_alloc (o := (.cells ([.slice none 0 0, .slice none 0 0, .slice none 0 0, .slice none 0 0] : List Value).toArray 37)) (by (first | (simp; done) | (simp; omega) | omega)) kp_refl))
          replace Ho8 := Lib.hid (Ho8.out.kp (kp_alloc (o := (.cells ([.slice none 0 0, .slice none 0 0, .slice none 0 0, .slice none 0 0] : List Value).toArray 37)) (by (first | (simp; done) | (simp; omega) | omega)) kp_refl))
          replace Ho9 := Lib.hid (Ho9.out.kp (kp_alloc (o := (.cells ([.slice none 0 0, .slice none 0 0, .slice none 0 0, .slice none 0 0] : List Value).toArray 37)) (by (first | (simp; done) | (simp; omega) | omega)) kp_refl))
          have Qt15 := Bx.new v20 [.slice none 0 0, .slice none 0 0, .slice none 0 0, .slice none 0 0] 37
          replace HB := Lib.hid (HB.out.alloc HB.out.size (.cells ([.slice none 0 0, .slice none 0 0, .slice none 0 0, .slice none 0 0] : List Value).toArray 37))
          have hS2 := hS.alloc hS.size (.cells ([.slice none 0 0, .slice none 0 0, .slice none 0 0, .slice none 0 0] : List Value).toArray 37)
          refine hK.out _ _ (hS2) ?_
          try simp only [Act.put, List.setIfInBounds_toArray, List.set_cons_zero, List.set_cons_succ]
          clear hK K hS
          clear hS2
          refine restK_alone 3 rfl (by kernel_rfl) (by rfl) (fun hS K hK => ?_)
          go_wp2_with fail
          refine (c_toHead_o num base time m1 mk1 l _ (HMh.out _ HB.out) (by omega)).mono ?_
          rintro e9 v21 ⟨p101, p10k1, rfl, hs, hb⟩
          have hz16 := hb.size
          simp only [World.size_alloc] at hz16
          replace Qt2 := Qt2.below hb
          replace Qt3 := Qt3.below hb
          replace Qt6 := Qt6.below hb
          replace Qt8 := Qt8.below hb
          replace Qt9 := Qt9.below hb
          replace Qt10 := Qt10.below hb
          replace Qt15 := Qt15.below hb
          replace FB := FB.below hb
          replace Ho3a := Lib.hid (Ho3a.out.kp (kp_of_below hb (by (first | (simp; done) | (simp; omega) | omega))))
          replace Ho4 := Lib.hid (Ho4.out.kp (kp_of_below hb (by (first | (simp; done) | (simp; omega) | omega))))
          replace Ho5 := Lib.hid (Ho5.out.kp (kp_of_below hb (by (first | (simp; done) | (simp; omega) | omega))))
          replace Ho6a := Lib.hid (Ho6a.out.kp (kp_of_below hb (by (first | (simp; done) | (simp; omega) | omega))))
          replace Ho7 := Lib.hid (Ho7.out.kp (kp_of_below hb (by (first | (simp; done) | (simp; omega) | omega))))
          replace Ho8 := Lib.hid (Ho8.out.kp (kp_of_below hb (by (first | (simp; done) | (simp; omega) | omega))))
          replace Ho9 := Lib.hid (Ho9.out.kp (kp_of_below hb (by (first | (simp; done) | (simp; omega) | omega))))
          replace HB := Lib.hid (bl_step hb HB.out.size HB.out)
          replace qt2 := Qt2.2
          replace pt2 := Qt2.1
          replace lt2 := Nat.le_of_lt Qt2.1
          replace qt3 := Qt3.2
          replace pt3 := Qt3.1
          replace lt3 := Nat.le_of_lt Qt3.1
          replace qt6 := Qt6.2
          replace pt6 := Qt6.1
          replace lt6 := Nat.le_of_lt Qt6.1
          replace qt8 := Qt8.2
          replace pt8 := Qt8.1
          replace lt8 := Nat.le_of_lt Qt8.1
          replace qt9 := Qt9.2
          replace pt9 := Qt9.1
          replace lt9 := Nat.le_of_lt Qt9.1
          replace qt10 := Qt10.2
          replace pt10 := Qt10.1
          replace lt10 := Nat.le_of_lt Qt10.1
          have qt15 := Qt15.2
          have pt15 := Qt15.1
          have lt15 := Nat.le_of_lt Qt15.1
          simp only [World.size_alloc] at hs
          have Ho10 : Hid (Sp marksO v21 (v20.heap.size + 1) (v21.heap.size) l [.slice p101 l.length p10k1]) := hs
          clear hs
          have hS2 := bl_step hb hS.size hS
          refine hK.out _ _ (hS2) ?_
          try simp only [Act.put, List.setIfInBounds_toArray, List.set_cons_zero, List.set_cons_succ]
          clear hK K hS
          clear hS2 hb
          refine restK_alone 4 rfl (by kernel_rfl) (by rfl) (fun hS K hK => ?_)
          go_wp2_with fail
          refine (KI.out p91 p92 p93 p94 p9k1 p9k2 p9k3 p9k4 p101 p10k1 _ (Ho9.out).two.1 (Ho9.out).two.2 (Ho10.out).marksR).mono ?_
          rintro e9 v22 ⟨p11a1, p11ak1, p11a2, p11ak2, p11a3, p11ak3, p11a4, p11ak4, rfl, hs, hb⟩
          have hz17 := hb.size
          replace Qt2 := Qt2.below hb
          replace Qt3 := Qt3.below hb
          replace Qt6 := Qt6.below hb
          replace Qt8 := Qt8.below hb
          replace Qt9 := Qt9.below hb
          replace Qt10 := Qt10.below hb
          replace Qt15 := Qt15.below hb
          replace FB := FB.below hb
          replace Ho3a := Lib.hid (Ho3a.out.kp (kp_of_below hb (by (first | (simp; done) | (simp; omega) | omega))))
          replace Ho4 := Lib.hid (Ho4.out.kp (kp_of_below hb (by (first | (simp; done) | (simp; omega) | omega))))
          replace Ho5 := Lib.hid (Ho5.out.kp (kp_of_below hb (by (first | (simp; done) | (simp; omega) | omega))))
          replace Ho6a := Lib.hid (Ho6a.out.kp (kp_of_below hb (by (first | (simp; done) | (simp; omega) | omega))))
          replace Ho7 := Lib.hid (Ho7.out.kp (kp_of_below hb (by (first | (simp; done) | (simp; omega) | omega))))
          replace Ho8 := Lib.hid (Ho8.out.kp (kp_of_below hb (by (first | (simp; done) | (simp; omega) | omega))))
          replace Ho9 := Lib.hid (Ho9.out.kp (kp_of_below hb (by (first | (simp; done) | (simp; omega) | omega))))
          replace Ho10 := Lib.hid (Ho10.out.kp (kp_of_below hb (by (first | (simp; done) | (simp; omega) | omega))))
          replace HB := Lib.hid (bl_step hb HB.out.size HB.out)
          replace qt2 := Qt2.2
          replace pt2 := Qt2.1
          replace lt2 := Nat.le_of_lt Qt2.1
          replace qt3 := Qt3.2
          replace pt3 := Qt3.1
          replace lt3 := Nat.le_of_lt Qt3.1
          replace qt6 := Qt6.2
          replace pt6 := Qt6.1
          replace lt6 := Nat.le_of_lt Qt6.1
          replace qt8 := Qt8.2
          replace pt8 := Qt8.1
          replace lt8 := Nat.le_of_lt Qt8.1
          replace qt9 := Qt9.2
          replace pt9 := Qt9.1
          replace lt9 := Nat.le_of_lt Qt9.1
          replace qt10 := Qt10.2
          replace pt10 := Qt10.1
          replace lt10 := Nat.le_of_lt Qt10.1
          replace qt15 := Qt15.2
          replace pt15 := Qt15.1
          replace lt15 := Nat.le_of_lt Qt15.1
          dsimp only at hs
          have Ho11a : Hid (Sp twoO v22 (v21.heap.size) (v22.heap.size) (X, Y) [.slice p11a1 X.1.length p11ak1, .slice p11a2 X.2.length p11ak2, .slice p11a3 Y.1.length p11ak3, .slice p11a4 Y.2.length p11ak4]) := hs
          clear hs
          have hS2 := bl_step hb hS.size hS
          refine hK.out _ _ hS2 ?_
          clear hK K hS
          clear hS2 hb
          refine restK_pure (v := ?_) 5 rfl (by kernel_rfl) (by kernel_rfl) (by kernel_rfl) (by kernel_rfl) (fun _ _ _ h => h) (by rfl) ?_ ?_
          rotate_left
          · intro w9; go_simp; try with_reducible rfl
          try simp only [Act.put, List.setIfInBounds_toArray, List.set_cons_zero, List.set_cons_succ]
          refine restK_pure (v := ?_) 6 rfl (by kernel_rfl) (by kernel_rfl) (by kernel_rfl) (by kernel_rfl) (fun _ _ _ h => h) (by rfl) ?_ ?_
          rotate_left
          · intro w9; go_simp; try with_reducible rfl
          try simp only [Act.put, List.setIfInBounds_toArray, List.set_cons_zero, List.set_cons_succ]
          refine restK_pure (v := ?_) 7 rfl (by kernel_rfl) (by kernel_rfl) (by kernel_rfl) (by kernel_rfl) (fun _ _ _ h => h) (by rfl) ?_ ?_
          rotate_left
          · intro w9; go_simp; try with_reducible rfl
          try simp only [Act.put, List.setIfInBounds_toArray, List.set_cons_zero, List.set_cons_succ]
          refine restK_break 9 rfl (by kernel_rfl) (by rfl) (by kernel_rfl) (fun hS K hK => ?_)
          have fB9 := FB.2
          have hz9 := Qt15.1
          (try simp only [World.size_alloc, World.size_drew] at hz9)
          go_wp2_with fail
          clear fB9
          replace Qt2 := Qt2.setOther ⟨v20.heap.size, 0, none⟩ (.slice p11a1 X.1.length p11ak1) (by (first | (simp; done) | (simp; omega) | omega))
          replace Qt3 := Qt3.setOther ⟨v20.heap.size, 0, none⟩ (.slice p11a1 X.1.length p11ak1) (by (first | (simp; done) | (simp; omega) | omega))
          replace Qt6 := Qt6.setOther ⟨v20.heap.size, 0, none⟩ (.slice p11a1 X.1.length p11ak1) (by (first | (simp; done) | (simp; omega) | omega))
          replace Qt8 := Qt8.setOther ⟨v20.heap.size, 0, none⟩ (.slice p11a1 X.1.length p11ak1) (by (first | (simp; done) | (simp; omega) | omega))
          replace Qt9 := Qt9.setOther ⟨v20.heap.size, 0, none⟩ (.slice p11a1 X.1.length p11ak1) (by (first | (simp; done) | (simp; omega) | omega))
          replace Qt10 := Qt10.setOther ⟨v20.heap.size, 0, none⟩ (.slice p11a1 X.1.length p11ak1) (by (first | (simp; done) | (simp; omega) | omega))
          replace Qt15 := Qt15.set 0 (.slice p11a1 X.1.length p11ak1) (by simp)
          replace Ho3a := Lib.hid (Ho3a.out.kp (kp_set (p := ⟨v20.heap.size, 0, none⟩) (u := .slice p11a1 X.1.length p11ak1) (by (first | (simp; done) | (simp; omega) | omega)) kp_refl))
          replace Ho4 := Lib.hid (Ho4.out.kp (kp_set (p := ⟨v20.heap.size, 0, none⟩) (u := .slice p11a1 X.1.length p11ak1) (by (first | (simp; done) | (simp; omega) | omega)) kp_refl))
          replace Ho5 := Lib.hid (Ho5.out.kp (kp_set (p := ⟨v20.heap.size, 0, none⟩) (u := .slice p11a1 X.1.length p11ak1) (by (first | (simp; done) | (simp; omega) | omega)) kp_refl))
          replace Ho6a := Lib.hid (Ho6a.out.kp (kp_set (p := ⟨v20.heap.size, 0, none⟩) (u := .slice p11a1 X.1.length p11ak1) (by (first | (simp; done) | (simp; omega) | omega)) kp_refl))
          replace Ho7 := Lib.hid (Ho7.out.kp (kp_set (p := ⟨v20.heap.size, 0, none⟩) (u := .slice p11a1 X.1.length p11ak1) (by (first | (simp; done) | (simp; omega) | omega)) kp_refl))
          replace Ho8 := Lib.hid (Ho8.out.kp (kp_set (p := ⟨v20.heap.size, 0, none⟩) (u := .slice p11a1 X.1.length p11ak1) (by (first | (simp; done) | (simp; omega) | omega)) kp_refl))
          replace Ho9 := Lib.hid (Ho9.out.kp (kp_set (p := ⟨v20.heap.size, 0, none⟩) (u := .slice p11a1 X.1.length p11ak1) (by (first | (simp; done) | (simp; omega) | omega)) kp_refl))
          replace Ho10 := Lib.hid (Ho10.out.kp (kp_set (p := ⟨v20.heap.size, 0, none⟩) (u := .slice p11a1 X.1.length p11ak1) (by (first | (simp; done) | (simp; omega) | omega)) kp_refl))
          replace Ho11a := Lib.hid (Ho11a.out.kp (kp_set (p := ⟨v20.heap.size, 0, none⟩) (u := .slice p11a1 X.1.length p11ak1) (by (first | (simp; done) | (simp; omega) | omega)) kp_refl))
          replace HB := Lib.hid (HB.out.setCell (p := ⟨v20.heap.size, 0, none⟩) (by have := HB.out.size; (first | (simp; done) | (simp; omega) | omega)) (.slice p11a1 X.1.length p11ak1))
          replace Qt2 := Qt2.setOther ⟨v20.heap.size, 1, none⟩ (.slice p11a2 X.2.length p11ak2) (by (first | (simp; done) | (simp; omega) | omega))
          replace Qt3 := Qt3.setOther ⟨v20.heap.size, 1, none⟩ (.slice p11a2 X.2.length p11ak2) (by (first | (simp; done) | (simp; omega) | omega))
          replace Qt6 := Qt6.setOther ⟨v20.heap.size, 1, none⟩ (.slice p11a2 X.2.length p11ak2) (by (first | (simp; done) | (simp; omega) | omega))
          replace Qt8 := Qt8.setOther ⟨v20.heap.size, 1, none⟩ (.slice p11a2 X.2.length p11ak2) (by (first | (simp; done) | (simp; omega) | omega))
          replace Qt9 := Qt9.setOther ⟨v20.heap.size, 1, none⟩ (.slice p11a2 X.2.length p11ak2) (by (first | (simp; done) | (simp; omega) | omega))
          replace Qt10 := Qt10.setOther ⟨v20.heap.size, 1, none⟩ (.slice p11a2 X.2.length p11ak2) (by (first | (simp; done) | (simp; omega) | omega))
          replace Qt15 := Qt15.set 1 (.slice p11a2 X.2.length p11ak2) (by simp)
          replace Ho3a := Lib.hid (Ho3a.out.kp (kp_set (p := ⟨v20.heap.size, 1, none⟩) (u := .slice p11a2 X.2.length p11ak2) (by (first | (simp; done) | (simp; omega) | omega)) kp_refl))
          replace Ho4 := Lib.hid (Ho4.out.kp (kp_set (p := ⟨v20.heap.size, 1, none⟩) (u := .slice p11a2 X.2.length p11ak2) (by (first | (simp; done) | (simp; omega) | omega)) kp_refl))
          replace Ho5 := Lib.hid (Ho5.out.kp (kp_set (p := ⟨v20.heap.size, 1, none⟩) (u := .slice p11a2 X.2.length p11ak2) (by (first | (simp; done) | (simp; omega) | omega)) kp_refl))
          replace Ho6a := Lib.hid (Ho6a.out.kp (kp_set (p := ⟨v20.heap.size, 1, none⟩) (u := .slice p11a2 X.2.length p11ak2) (by (first | (simp; done) | (simp; omega) | omega)) kp_refl))
          replace Ho7 := Lib.hid (Ho7.out.kp (kp_set (p := ⟨v20.heap.size, 1, none⟩) (u := .slice p11a2 X.2.length p11ak2) (by (first | (simp; done) | (simp; omega) | omega)) kp_refl))
          replace Ho8 := Lib.hid (Ho8.out.kp (kp_set (p := ⟨v20.heap.size, 1, none⟩) (u := .slice p11a2 X.2.length p11ak2) (by (first | (simp; done) | (simp; omega) | omega)) kp_refl))
          replace Ho9 := Lib.hid (Ho9.out.kp (kp_set (p := ⟨v20.heap.size, 1, none⟩) (u := .slice p11a2 X.2.length p11ak2) (by (first | (simp; done) | (simp; omega) | omega)) kp_refl))
          replace Ho10 := Lib.hid (Ho10.out.kp (kp_set (p := ⟨v20.heap.size, 1, none⟩) (u := .slice p11a2 X.2.length p11ak2) (by (first | (simp; done) | (simp; omega) | omega)) kp_refl))
          replace Ho11a := Lib.hid (Ho11a.out.kp (kp_set (p := ⟨v20.heap.size, 1, none⟩) (u := .slice p11a2 X.2.length p11ak2) (by (first | (simp; done) | (simp; omega) | omega)) kp_refl))
          replace HB := Lib.hid (HB.out.setCell (p := ⟨v20.heap.size, 1, none⟩) (by have := HB.out.size; (first | (simp; done) | (simp; omega) | omega)) (.slice p11a2 X.2.length p11ak2))
          replace Qt2 := Qt2.setOther ⟨v20.heap.size, 2, none⟩ (.slice p11a3 Y.1.length p11ak3) (by (first | (simp; done) | (simp; omega) | omega))
          replace Qt3 := Qt3.setOther ⟨v20.heap.size, 2, none⟩ (.slice p11a3 Y.1.length p11ak3) (by (first | (simp; done) | (simp; omega) | omega))
          replace Qt6 := Qt6.setOther ⟨v20.heap.size, 2, none⟩ (.slice p11a3 Y.1.length p11ak3) (by (first | (simp; done) | (simp; omega) | omega))
          replace Qt8 := Qt8.setOther ⟨v20.heap.size, 2, none⟩ (.slice p11a3 Y.1.length p11ak3) (by (first | (simp; done) | (simp; omega) | omega))
          replace Qt9 := Qt9.setOther ⟨v20.heap.size, 2, none⟩ (.slice p11a3 Y.1.length p11ak3) (by (first | (simp; done) | (simp; omega) | omega))
          replace Qt10 := Qt10.setOther ⟨v20.heap.size, 2, none⟩ (.slice p11a3 Y.1.length p11ak3) (by (first | (simp; done) | (simp; omega) | omega))
          replace Qt15 := Qt15.set 2 (.slice p11a3 Y.1.length p11ak3) (by simp)
          replace Ho3a := Lib.hid (Ho3a.out.kp (kp_set (p := ⟨v20.heap.size, 2, none⟩) (u := .slice p11a3 Y.1.length p11ak3) (by (first | (simp; done) | (simp; omega) | omega)) kp_refl))
          replace Ho4 := Lib.hid (Ho4.out.kp (kp_set (p := ⟨v20.heap.size, 2, none⟩) (u := .slice p11a3 Y.1.length p11ak3) (by (first | (simp; done) | (simp; omega) | omega)) kp_refl))
          replace Ho5 := Lib.hid (Ho5.out.kp (kp_set (p := ⟨v20.heap.size, 2, none⟩) (u := .slice p11a3 Y.1.length p11ak3) (by (first | (simp; done) | (simp; omega) | omega)) kp_refl))
          replace Ho6a := Lib.hid (Ho6a.out.kp (kp_set (p := ⟨v20.heap.size, 2, none⟩) (u := .slice p11a3 Y.1.length p11ak3) (by (first | (simp; done) | (simp; omega) | omega)) kp_refl))
          replace Ho7 := Lib.hid (Ho7.out.kp (kp_set (p := ⟨v20.heap.size, 2, none⟩) (u := .slice p11a3 Y.1.length p11ak3) (by (first | (simp; done) | (simp; omega) | omega)) kp_refl))
          replace Ho8 := Lib.hid (Ho8.out.kp (kp_set (p := ⟨v20.heap.size, 2, none⟩) (u := .slice p11a3 Y.1.length p11ak3) (by (first | (simp; done) | (simp; omega) | omega)) kp_refl))
          replace Ho9 := Lib.hid (Ho9.out.kp (kp_set (p := ⟨v20.heap.size, 2, none⟩) (u := .slice p11a3 Y.1.length p11ak3) (by (first | (simp; done) | (simp; omega) | omega)) kp_refl))
          replace Ho10 := Lib.hid (Ho10.out.kp (kp_set (p := ⟨v20.heap.size, 2, none⟩) (u := .slice p11a3 Y.1.length p11ak3) (by (first | (simp; done) | (simp; omega) | omega)) kp_refl))
          replace Ho11a := Lib.hid (Ho11a.out.kp (kp_set (p := ⟨v20.heap.size, 2, none⟩) (u := .slice p11a3 Y.1.length p11ak3) (by (first | (simp; done) | (simp; omega) | omega)) kp_refl))
          replace HB := Lib.hid (HB.out.setCell (p := ⟨v20.heap.size, 2, none⟩) (by have := HB.out.size; (first | (simp; done) | (simp; omega) | omega)) (.slice p11a3 Y.1.length p11ak3))
          replace Qt2 := Qt2.setOther ⟨v20.heap.size, 3, none⟩ (.slice p11a4 Y.2.length p11ak4) (by (first | (simp; done) | (simp; omega) | omega))
          replace Qt3 := Qt3.setOther ⟨v20.heap.size, 3, none⟩ (.slice p11a4 Y.2.length p11ak4) (by (first | (simp; done) | (simp; omega) | omega))
          replace Qt6 := Qt6.setOther ⟨v20.heap.size, 3, none⟩ (.slice p11a4 Y.2.length p11ak4) (by (first | (simp; done) | (simp; omega) | omega))
          replace Qt8 := Qt8.setOther ⟨v20.heap.size, 3, none⟩ (.slice p11a4 Y.2.length p11ak4) (by (first | (simp; done) | (simp; omega) | omega))
          replace Qt9 := Qt9.setOther ⟨v20.heap.size, 3, none⟩ (.slice p11a4 Y.2.length p11ak4) (by (first | (simp; done) | (simp; omega) | omega))
          replace Qt10 := Qt10.setOther ⟨v20.heap.size, 3, none⟩ (.slice p11a4 Y.2.length p11ak4) (by (first | (simp; done) | (simp; omega) | omega))
          replace Qt15 := Qt15.set 3 (.slice p11a4 Y.2.length p11ak4) (by simp)
          replace Ho3a := Lib.hid (Ho3a.out.kp (kp_set (p := ⟨v20.heap.size, 3, none⟩) (u := .slice p11a4 Y.2.length p11ak4) (by (first | (simp; done) | (simp; omega) | omega)) kp_refl))
          replace Ho4 := Lib.hid (Ho4.out.kp (kp_set (p := ⟨v20.heap.size, 3, none⟩) (u := .slice p11a4 Y.2.length p11ak4) (by (first | (simp; done) | (simp; omega) | omega)) kp_refl))
          replace Ho5 := Lib.hid (Ho5.out.kp (kp_set (p := ⟨v20.heap.size, 3, none⟩) (u := .slice p11a4 Y.2.length p11ak4) (by (first | (simp; done) | (simp; omega) | omega)) kp_refl))
          replace Ho6a := Lib.hid (Ho6a.out.kp (kp_set (p := ⟨v20.heap.size, 3, none⟩) (u := .slice p11a4 Y.2.length p11ak4) (by (first | (simp; done) | (simp; omega) | omega)) kp_refl))
          replace Ho7 := Lib.hid (Ho7.out.kp (kp_set (p := ⟨v20.heap.size, 3, none⟩) (u := .slice p11a4 Y.2.length p11ak4) (by (first | (simp; done) | (simp; omega) | omega)) kp_refl))
          replace Ho8 := Lib.hid (Ho8.out.kp (kp_set (p := ⟨v20.heap.size, 3, none⟩) (u := .slice p11a4 Y.2.length p11ak4) (by (first | (simp; done) | (simp; omega) | omega)) kp_refl))
          replace Ho9 := Lib.hid (Ho9.out.kp (kp_set (p := ⟨v20.heap.size, 3, none⟩) (u := .slice p11a4 Y.2.length p11ak4) (by (first | (simp; done) | (simp; omega) | omega)) kp_refl))
          replace Ho10 := Lib.hid (Ho10.out.kp (kp_set (p := ⟨v20.heap.size, 3, none⟩) (u := .slice p11a4 Y.2.length p11ak4) (by (first | (simp; done) | (simp; omega) | omega)) kp_refl))
          replace Ho11a := Lib.hid (Ho11a.out.kp (kp_set (p := ⟨v20.heap.size, 3, none⟩) (u := .slice p11a4 Y.2.length p11ak4) (by (first | (simp; done) | (simp; omega) | omega)) kp_refl))
          replace HB := Lib.hid (HB.out.setCell (p := ⟨v20.heap.size, 3, none⟩) (by have := HB.out.size; (first | (simp; done) | (simp; omega) | omega)) (.slice p11a4 Y.2.length p11ak4))
          simp only [List.set_cons_succ, List.set_cons_zero] at Qt15
          refine hK.out _ _ trivial ?_
          clear hK K hS
          refine rest_take (v := ?_) 10 rfl (by kernel_rfl) (by kernel_rfl) (by kernel_rfl) (fun _ _ _ h => h) (by rfl) ?_ ?_
          rotate_left
          · intro w9; go_simp; try with_reducible rfl
          try simp only [Act.put, List.setIfInBounds_toArray, List.set_cons_zero, List.set_cons_succ]
          refine rest_done (by kernel_rfl) ?_
          go_wp2_with fail
          go_meet
          exact ⟨v20.heap.size, p11a1, p11ak1, p11a2, p11ak2, p11a3, p11ak3, p11a4, p11ak4, v21.heap.size, v22.heap.size, rfl, rfl, Qt15, Qt2, Qt3, Qt6, Qt8, Qt9, Qt10, Ho3a, Ho4, Ho5, Ho6a, Ho7, Ho8, Ho11a, by (first | (simp; done) | (simp; omega) | omega), by (first | (simp; done) | (simp; omega) | omega), by (first | (simp; done) | (simp; omega) | omega), by (first | (simp; done) | (simp; omega) | omega), by (first | (simp; done) | (simp; omega) | omega), by have := hz9; (first | (simp; done) | (simp; omega) | omega), HB⟩
      · skip
        replace Qt2 := Qt2.drew
        replace Qt3 := Qt3.drew
        replace Qt6 := Qt6.drew
        replace Qt8 := Qt8.drew
        replace Qt9 := Qt9.drew
        replace Qt10 := Qt10.drew
        replace Ho3a := Lib.hid (Ho3a.out.kp (kp_drew kp_refl))
        replace Ho4 := Lib.hid (Ho4.out.kp (kp_drew kp_refl))
        replace Ho5 := Lib.hid (Ho5.out.kp (kp_drew kp_refl))
        replace Ho6a := Lib.hid (Ho6a.out.kp (kp_drew kp_refl))
        replace Ho7 := Lib.hid (Ho7.out.kp (kp_drew kp_refl))
        replace Ho8 := Lib.hid (Ho8.out.kp (kp_drew kp_refl))
        replace HB := Lib.hid HB.out.drew
        go_wp2_with fail
        have FB := Fx.new v19.drew [.slice none 0 0, .slice none 0 0, .slice none 0 0, .slice none 0 0] 37
        simp only [World.size_drew] at FB
        replace Qt2 := Qt2.alloc (.cells ([.slice none 0 0, .slice none 0 0, .slice none 0 0, .slice none 0 0] : List Value).toArray 37)
        replace Qt3 := Qt3.alloc (.cells ([.slice none 0 0, .slice none 0 0, .slice none 0 0, .slice none 0 0] : List Value).toArray 37)
        replace Qt6 := Qt6.alloc (.cells ([.slice none 0 0, .slice none 0 0, .slice none 0 0, .slice none 0 0] : List Value).toArray 37)
        replace Qt8 := Qt8.alloc (.cells ([.slice none 0 0, .slice none 0 0, .slice none 0 0, .slice none 0 0] : List Value).toArray 37)
        replace Qt9 := Qt9.alloc (.cells ([.slice none 0 0, .slice none 0 0, .slice none 0 0, .slice none 0 0] : List Value).toArray 37)
        replace Qt10 := Qt10.alloc (.cells ([.slice none 0 0, .slice none 0 0, .slice none 0 0, .slice none 0 0] : List Value).toArray 37)
        replace Ho3a := Lib.hid (Ho3a.out.kp (kp_alloc (o := (.cells ([.slice none 0 0, .slice none 0 0, .slice none 0 0, .slice none 0 0] : List Value).toArray 37)) (by (first | (simp; done) | (simp; omega) | omega)) kp_refl))
        replace Ho4 := Lib.hid (Ho4.out.kp (kp_alloc (o := (.cells ([.slice none 0 0, .slice none 0 0, .slice none 0 0, .slice none 0 0] : List Value).toArray 37)) (by (first | (simp; done) | (simp; omega) | omega)) kp_refl))
        replace Ho5 := Lib.hid (Ho5.out.kp (kp_alloc (o := (.cells ([.slice none 0 0, .slice none 0 0, .slice none 0 0, .slice none 0 0] : List Value).toArray 37)) (by (first | (simp; done) | (simp; omega) | omega)) kp_refl))
        replace Ho6a := Lib.hid (Ho6a.out.kp (kp_alloc (o := (.cells ([.slice none 0 0, .slice none 0 0, .slice none 0 0, .slice none 0 0] : List Value).toArray 37)) (by (first | (simp; done) | (simp; omega) | omega)) kp_refl))
        replace Ho7 := Lib.hid (Ho7.out.kp (kp_alloc (o := (.cells ([.slice none 0 0, .slice none 0 0, .slice none 0 0, .slice none 0 0] : List Value).toArray 37)) (by (first | (simp; done) | (simp; omega) | omega)) kp_refl))
        replace Ho8 := Lib.hid (Ho8.out.kp (kp_alloc (o := (.cells ([.slice none 0 0, .slice none 0 0, .slice none 0 0, .slice none 0 0] : List Value).toArray 37)) (by (first | (simp; done) | (simp; omega) | omega)) kp_refl))
        have Qt15 := Bx.new v19.drew [.slice none 0 0, .slice none 0 0, .slice none 0 0, .slice none 0 0] 37
        simp only [World.size_drew] at Qt15
        replace HB := Lib.hid (HB.out.alloc HB.out.size (.cells ([.slice none 0 0, .slice none 0 0, .slice none 0 0, .slice none 0 0] : List Value).toArray 37))
        have hS2 := hS.alloc hS.size (.cells ([.slice none 0 0, .slice none 0 0, .slice none 0 0, .slice none 0 0] : List Value).toArray 37)
        refine hK.out _ _ (hS2) ?_
        try simp only [Act.put, List.setIfInBounds_toArray, List.set_cons_zero, List.set_cons_succ]
        clear hK K hS
        clear hS2
        refine restK_alone 1 rfl (by kernel_rfl) (by rfl) (fun hS K hK => ?_)
        go_wp2_with fail
        refine (c_toTwo a1 a2 a3 a4 ak1 ak2 ak3 ak4 d e _ (HD.out _ HB.out) (HE.out _ HB.out) HSd.out.1 HSe.out.1).mono ?_
        rintro e9 v20 ⟨p91, p9k1, p92, p9k2, p93, p9k3, p94, p9k4, rfl, hs, hb⟩
        have hz15 := hb.size
        simp only [World.size_alloc, World.size_drew] at hz15
        replace Qt2 := Qt2.below hb
        replace Qt3 := Qt3.below hb
        replace Qt6 := Qt6.below hb
        replace Qt8 := Qt8.below hb
        replace Qt9 := Qt9.below hb
        replace Qt10 := Qt10.below hb
        replace Qt15 := Qt15.below hb
        replace FB := FB.below hb
        replace Ho3a := Lib.hid (Ho3a.out.kp (kp_of_below hb (by (first | (simp; done) | (simp; omega) | omega))))
        replace Ho4 := Lib.hid (Ho4.out.kp (kp_of_below hb (by (first | (simp; done) | (simp; omega) | omega))))
        replace Ho5 := Lib.hid (Ho5.out.kp (kp_of_below hb (by (first | (simp; done) | (simp; omega) | omega))))
        replace Ho6a := Lib.hid (Ho6a.out.kp (kp_of_below hb (by (first | (simp; done) | (simp; omega) | omega))))
        replace Ho7 := Lib.hid (Ho7.out.kp (kp_of_below hb (by (first | (simp; done) | (simp; omega) | omega))))
        replace Ho8 := Lib.hid (Ho8.out.kp (kp_of_below hb (by (first | (simp; done) | (simp; omega) | omega))))
        replace HB := Lib.hid (bl_step hb HB.out.size HB.out)
        replace qt2 := Qt2.2
        replace pt2 := Qt2.1
        replace lt2 := Nat.le_of_lt Qt2.1
        replace qt3 := Qt3.2
        replace pt3 := Qt3.1
        replace lt3 := Nat.le_of_lt Qt3.1
        replace qt6 := Qt6.2
        replace pt6 := Qt6.1
        replace lt6 := Nat.le_of_lt Qt6.1
        replace qt8 := Qt8.2
        replace pt8 := Qt8.1
        replace lt8 := Nat.le_of_lt Qt8.1
        replace qt9 := Qt9.2
        replace pt9 := Qt9.1
        replace lt9 := Nat.le_of_lt Qt9.1
        replace qt10 := Qt10.2
        replace pt10 := Qt10.1
        replace lt10 := Nat.le_of_lt Qt10.1
        have qt15 := Qt15.2
        have pt15 := Qt15.1
        have lt15 := Nat.le_of_lt Qt15.1
        simp only [World.size_alloc, World.size_drew] at hs
        have Ho9 : Hid (Sp twoO v20 (v19.heap.size + 1) (v20.heap.size) (d, e) [.slice p91 d.1.length p9k1, .slice p92 d.2.length p9k2, .slice p93 e.1.length p9k3, .slice p94 e.2.length p9k4]) := hs
        clear hs
        have hS2 := bl_step hb hS.size hS
        refine hK.out _ _ (hS2) ?_
        try simp only [Act.put, List.setIfInBounds_toArray, List.set_cons_zero, List.set_cons_succ]
        clear hK K hS
        clear hS2 hb
        refine restK_alone 3 rfl (by kernel_rfl) (by rfl) (fun hS K hK => ?_)
        go_wp2_with fail
        refine (c_toHead_o num base time m1 mk1 l _ (HMh.out _ HB.out) (by omega)).mono ?_
        rintro e9 v21 ⟨p101, p10k1, rfl, hs, hb⟩
        have hz16 := hb.size
        replace Qt2 := Qt2.below hb
        replace Qt3 := Qt3.below hb
        replace Qt6 := Qt6.below hb
        replace Qt8 := Qt8.below hb
        replace Qt9 := Qt9.below hb
        replace Qt10 := Qt10.below hb
        replace Qt15 := Qt15.below hb
        replace FB := FB.below hb
        replace Ho3a := Lib.hid (Ho3a.out.kp (kp_of_below hb (by (first | (simp; done) | (simp; omega) | omega))))
        replace Ho4 := Lib.hid (Ho4.out.kp (kp_of_below hb (by (first | (simp; done) | (simp; omega) | omega))))
        replace Ho5 := Lib.hid (Ho5.out.kp (kp_of_below hb (by (first | (simp; done) | (simp; omega) | omega))))
        replace Ho6a := Lib.hid (Ho6a.out.kp (kp_of_below hb (by (first | (simp; done) | (simp; omega) | omega))))
        replace Ho7 := Lib.hid (Ho7.out.kp (kp_of_below hb (by (first | (simp; done) | (simp; omega) | omega))))
        replace Ho8 := Lib.hid (Ho8.out.kp (kp_of_below hb (by (first | (simp; done) | (simp; omega) | omega))))
        replace Ho9 := Lib.hid (Ho9.out.kp (kp_of_below hb (by (first | (simp; done) | (simp; omega) | omega))))
        replace HB := Lib.hid (bl_step hb HB.out.size HB.out)
        replace qt2 := Qt2.2
        replace pt2 := Qt2.1
        replace lt2 := Nat.le_of_lt Qt2.1
        replace qt3 := Qt3.2
        replace pt3 := Qt3.1
        replace lt3 := Nat.le_of_lt Qt3.1
        replace qt6 := Qt6.2
        replace pt6 := Qt6.1
        replace lt6 := Nat.le_of_lt Qt6.1
        replace qt8 := Qt8.2
        replace pt8 := Qt8.1
        replace lt8 := Nat.le_of_lt Qt8.1
        replace qt9 := Qt9.2
        replace pt9 := Qt9.1
        replace lt9 := Nat.le_of_lt Qt9.1
        replace qt10 := Qt10.2
        replace pt10 := Qt10.1
        replace lt10 := Nat.le_of_lt Qt10.1
        replace qt15 := Qt15.2
        replace pt15 := Qt15.1
        replace lt15 := Nat.le_of_lt Qt15.1
        have Ho10 : Hid (Sp marksO v21 (v20.heap.size) (v21.heap.size) l [.slice p101 l.length p10k1]) := hs
        clear hs
        have hS2 := bl_step hb hS.size hS
        refine hK.out _ _ (hS2) ?_
        try simp only [Act.put, List.setIfInBounds_toArray, List.set_cons_zero, List.set_cons_succ]
        clear hK K hS
        clear hS2 hb
        refine restK_alone 4 rfl (by kernel_rfl) (by rfl) (fun hS K hK => ?_)
        go_wp2_with fail
        refine (KI.out p91 p92 p93 p94 p9k1 p9k2 p9k3 p9k4 p101 p10k1 _ (Ho9.out).two.1 (Ho9.out).two.2 (Ho10.out).marksR).mono ?_
        rintro e9 v22 ⟨p11a1, p11ak1, p11a2, p11ak2, p11a3, p11ak3, p11a4, p11ak4, rfl, hs, hb⟩
        have hz17 := hb.size
        replace Qt2 := Qt2.below hb
        replace Qt3 := Qt3.below hb
        replace Qt6 := Qt6.below hb
        replace Qt8 := Qt8.below hb
        replace Qt9 := Qt9.below hb
        replace Qt10 := Qt10.below hb
        replace Qt15 := Qt15.below hb
        replace FB := FB.below hb
        replace Ho3a := Lib.hid (Ho3a.out.kp (kp_of_below hb (by (first | (simp; done) | (simp; omega) | omega))))
        replace Ho4 := Lib.hid (Ho4.out.kp (kp_of_below hb (by (first | (simp; done) | (simp; omega) | omega))))
        replace Ho5 := Lib.hid (Ho5.out.kp (kp_of_below hb (by (first | (simp; done) | (simp; omega) | omega))))
        replace Ho6a := Lib.hid (Ho6a.out.kp (kp_of_below hb (by (first | (simp; done) | (simp; omega) | omega))))
        replace Ho7 := Lib.hid (Ho7.out.kp (kp_of_below hb (by (first | (simp; done) | (simp; omega) | omega))))
        replace Ho8 := Lib.hid (Ho8.out.kp (kp_of_below hb (by (first | (simp; done) | (simp; omega) | omega))))
        replace Ho9 := Lib.hid (Ho9.out.kp (kp_of_below hb (by (first | (simp; done) | (simp; omega) | omega))))
        replace Ho10 := Lib.hid (Ho10.out.kp (kp_of_below hb (by (first | (simp; done) | (simp; omega) | omega))))
        replace HB := Lib.hid (bl_step hb HB.out.size HB.out)
        replace qt2 := Qt2.2
        replace pt2 := Qt2.1
        replace lt2 := Nat.le_of_lt Qt2.1
        replace qt3 := Qt3.2
        replace pt3 := Qt3.1
        replace lt3 := Nat.le_of_lt Qt3.1
        replace qt6 := Qt6.2
        replace pt6 := Qt6.1
        replace lt6 := Nat.le_of_lt Qt6.1
        replace qt8 := Qt8.2
        replace pt8 := Qt8.1
        replace lt8 := Nat.le_of_lt Qt8.1
        replace qt9 := Qt9.2
        replace pt9 := Qt9.1
        replace lt9 := Nat.le_of_lt Qt9.1
        replace qt10 := Qt10.2
        replace pt10 := Qt10.1
        replace lt10 := Nat.le_of_lt Qt10.1
        replace qt15 := Qt15.2
        replace pt15 := Qt15.1
        replace lt15 := Nat.le_of_lt Qt15.1
        dsimp only at hs
        have Ho11a : Hid (Sp twoO v22 (v21.heap.size) (v22.heap.size) (X, Y) [.slice p11a1 X.1.length p11ak1, .slice p11a2 X.2.length p11ak2, .slice p11a3 Y.1.length p11ak3, .slice p11a4 Y.2.length p11ak4]) := hs
        clear hs
        have hS2 := bl_step hb hS.size hS
        refine hK.out _ _ hS2 ?_
        clear hK K hS
        clear hS2 hb
        refine restK_pure (v := ?_) 5 rfl (by kernel_rfl) (by kernel_rfl) (by kernel_rfl) (by kernel_rfl) (fun _ _ _ h => h) (by rfl) ?_ ?_
        rotate_left
        · intro w9; go_simp; try with_reducible rfl
        try simp only [Act.put, List.setIfInBounds_toArray, List.set_cons_zero, List.set_cons_succ]
        refine restK_pure (v := ?_) 6 rfl (by kernel_rfl) (by kernel_rfl) (by kernel_rfl) (by kernel_rfl) (fun _ _ _ h => h) (by rfl) ?_ ?_
        rotate_left
        · intro w9; go_simp; try with_reducible rfl
        try simp only [Act.put, List.setIfInBounds_toArray, List.set_cons_zero, List.set_cons_succ]
        refine restK_pure (v := ?_) 7 rfl (by kernel_rfl) (by kernel_rfl) (by kernel_rfl) (by kernel_rfl) (fun _ _ _ h => h) (by rfl) ?_ ?_
        rotate_left
        · intro w9; go_simp; try with_reducible rfl
        try simp only [Act.put, List.setIfInBounds_toArray, List.set_cons_zero, List.set_cons_succ]
        refine restK_break 9 rfl (by kernel_rfl) (by rfl) (by kernel_rfl) (fun hS K hK => ?_)
        have fB9 := FB.2
        have hz9 := Qt15.1
        (try simp only [World.size_alloc, World.size_drew] at hz9)
        go_wp2_with fail
        clear fB9
        replace Qt2 := Qt2.setOther ⟨v19.heap.size, 0, none⟩ (.slice p11a1 X.1.length p11ak1) (by (first | (simp; done) | (simp; omega) | omega))
        replace Qt3 := Qt3.setOther ⟨v19.heap.size, 0, none⟩ (.slice p11a1 X.1.length p11ak1) (by (first | (simp; done) | (simp; omega) | omega))
        replace Qt6 := Qt6.setOther ⟨v19.heap.size, 0, none⟩ (.slice p11a1 X.1.length p11ak1) (by (first | (simp; done) | (simp; omega) | omega))
        replace Qt8 := Qt8.setOther ⟨v19.heap.size, 0, none⟩ (.slice p11a1 X.1.length p11ak1) (by (first | (simp; done) | (simp; omega) | omega))
        replace Qt9 := Qt9.setOther ⟨v19.heap.size, 0, none⟩ (.slice p11a1 X.1.length p11ak1) (by (first | (simp; done) | (simp; omega) | omega))
        replace Qt10 := Qt10.setOther ⟨v19.heap.size, 0, none⟩ (.slice p11a1 X.1.length p11ak1) (by (first | (simp; done) | (simp; omega) | omega))
        replace Qt15 := Qt15.set 0 (.slice p11a1 X.1.length p11ak1) (by simp)
        replace Ho3a := Lib.hid (Ho3a.out.kp (kp_set (p := ⟨v19.heap.size, 0, none⟩) (u := .slice p11a1 X.1.length p11ak1) (by (first | (simp; done) | (simp; omega) | omega)) kp_refl))
        replace Ho4 := Lib.hid (Ho4.out.kp (kp_set (p := ⟨v19.heap.size, 0, none⟩) (u := .slice p11a1 X.1.length p11ak1) (by (first | (simp; done) | (simp; omega) | omega)) kp_refl))
        replace Ho5 := Lib.hid (Ho5.out.kp (kp_set (p := ⟨v19.heap.size, 0, none⟩) (u := .slice p11a1 X.1.length p11ak1) (by (first | (simp; done) | (simp; omega) | omega)) kp_refl))
        replace Ho6a := Lib.hid (Ho6a.out.kp (kp_set (p := ⟨v19.heap.size, 0, none⟩) (u := .slice p11a1 X.1.length p11ak1) (by (first | (simp; done) | (simp; omega) | omega)) kp_refl))
        replace Ho7 := Lib.hid (Ho7.out.kp (kp_set (p := ⟨v19.heap.size, 0, none⟩) (u := .slice p11a1 X.1.length p11ak1) (by (first | (simp; done) | (simp; omega) | omega)) kp_refl))
        replace Ho8 := Lib.hid (Ho8.out.kp (kp_set (p := ⟨v19.heap.size, 0, none⟩) (u := .slice p11a1 X.1.length p11ak1) (by (first | (simp; done) | (simp; omega) | omega)) kp_refl))
        replace Ho9 := Lib.hid (Ho9.out.kp (kp_set (p := ⟨v19.heap.size, 0, none⟩) (u := .slice p11a1 X.1.length p11ak1) (by (first | (simp; done) | (simp; omega) | omega)) kp_refl))
        replace Ho10 := Lib.hid (Ho10.out.kp (kp_set (p := ⟨v19.heap.size, 0, none⟩) (u := .slice p11a1 X.1.length p11ak1) (by (first | (simp; done) | (simp; omega) | omega)) kp_refl))
        replace Ho11a := Lib.hid (Ho11a.out.kp (kp_set (p := ⟨v19.heap.size, 0, none⟩) (u := .slice p11a1 X.1.length p11ak1) (by (first | (simp; done) | (simp; omega) | omega)) kp_refl))
        replace HB := Lib.hid (HB.out.setCell (p := ⟨v19.heap.size, 0, none⟩) (by have := HB.out.size; (first | (simp; done) | (simp; omega) | omega)) (.slice p11a1 X.1.length p11ak1))
        replace Qt2 := Qt2.setOther ⟨v19.heap.size, 1, none⟩ (.slice p11a2 X.2.length p11ak2) (by (first | (simp; done) | (simp; omega) | omega))
        replace Qt3 := Qt3.setOther ⟨v19.heap.size, 1, none⟩ (.slice p11a2 X.2.length p11ak2) (by (first | (simp; done) | (simp; omega) | omega))
        replace Qt6 := Qt6.setOther ⟨v19.heap.size, 1, none⟩ (.slice p11a2 X.2.length p11ak2) (by (first | (simp; done) | (simp; omega) | omega))
        replace Qt8 := Qt8.setOther ⟨v19.heap.size, 1, none⟩ (.slice p11a2 X.2.length p11ak2) (by (first | (simp; done) | (simp; omega) | omega))
        replace Qt9 := Qt9.setOther ⟨v19.heap.size, 1, none⟩ (.slice p11a2 X.2.length p11ak2) (by (first | (simp; done) | (simp; omega) | omega))
        replace Qt10 := Qt10.setOther ⟨v19.heap.size, 1, none⟩ (.slice p11a2 X.2.length p11ak2) (by (first | (simp; done) | (simp; omega) | omega))
        replace Qt15 := Qt15.set 1 (.slice p11a2 X.2.length p11ak2) (by simp)
        replace Ho3a := Lib.hid (Ho3a.out.kp (kp_set (p := ⟨v19.heap.size, 1, none⟩) (u := .slice p11a2 X.2.length p11ak2) (by (first | (simp; done) | (simp; omega) | omega)) kp_refl))
        replace Ho4 := Lib.hid (Ho4.out.kp (kp_set (p := ⟨v19.heap.size, 1, none⟩) (u := .slice p11a2 X.2.length p11ak2) (by (first | (simp; done) | (simp; omega) | omega)) kp_refl))
        replace Ho5 := Lib.hid (Ho5.out.kp (kp_set (p := ⟨v19.heap.size, 1, none⟩) (u := .slice p11a2 X.2.length p11ak2) (by (first | (simp; done) | (simp; omega) | omega)) kp_refl))
        replace Ho6a := Lib.hid (Ho6a.out.kp (kp_set (p := ⟨v19.heap.size, 1, none⟩) (u := .slice p11a2 X.2.length p11ak2) (by (first | (simp; done) | (simp; omega) | omega)) kp_refl))
        replace Ho7 := Lib.hid (Ho7.out.kp (kp_set (p := ⟨v19.heap.size, 1, none⟩) (u := .slice p11a2 X.2.length p11ak2) (by (first | (simp; done) | (simp; omega) | omega)) kp_refl))
        replace Ho8 := Lib.hid (Ho8.out.kp (kp_set (p := ⟨v19.heap.size, 1, none⟩) (u := .slice p11a2 X.2.length p11ak2) (by (first | (simp; done) | (simp; omega) | omega)) kp_refl))
        replace Ho9 := Lib.hid (Ho9.out.kp (kp_set (p := ⟨v19.heap.size, 1, none⟩) (u := .slice p11a2 X.2.length p11ak2) (by (first | (simp; done) | (simp; omega) | omega)) kp_refl))
        replace Ho10 := Lib.hid (Ho10.out.kp (kp_set (p := ⟨v19.heap.size, 1, none⟩) (u := .slice p11a2 X.2.length p11ak2) (by (first | (simp; done) | (simp; omega) | omega)) kp_refl))
        replace Ho11a := Lib.hid (Ho11a.out.kp (kp_set (p := ⟨v19.heap.size, 1, none⟩) (u := .slice p11a2 X.2.length p11ak2) (by (first | (simp; done) | (simp; omega) | omega)) kp_refl))
        replace HB := Lib.hid (HB.out.setCell (p := ⟨v19.heap.size, 1, none⟩) (by have := HB.out.size; (first | (simp; done) | (simp; omega) | omega)) (.slice p11a2 X.2.length p11ak2))
        replace Qt2 := Qt2.setOther ⟨v19.heap.size, 2, none⟩ (.slice p11a3 Y.1.length p11ak3) (by (first | (simp; done) | (simp; omega) | omega))
        replace Qt3 := Qt3.setOther ⟨v19.heap.size, 2, none⟩ (.slice p11a3 Y.1.length p11ak3) (by (first | (simp; done) | (simp; omega) | omega))
        replace Qt6 := Qt6.setOther ⟨v19.heap.size, 2, none⟩ (.slice p11a3 Y.1.length p11ak3) (by (first | (simp; done) | (simp; omega) | omega))
        replace Qt8 := Qt8.setOther ⟨v19.heap.size, 2, none⟩ (.slice p11a3 Y.1.length p11ak3) (by (first | (simp; done) | (simp; omega) | omega))
        replace Qt9 := Qt9.setOther ⟨v19.heap.size, 2, none⟩ (.slice p11a3 Y.1.length p11ak3) (by (first | (simp; done) | (simp; omega) | omega))
        replace Qt10 := Qt10.setOther ⟨v19.heap.size, 2, none⟩ (.slice p11a3 Y.1.length p11ak3) (by (first | (simp; done) | (simp; omega) | omega))
        replace Qt15 := Qt15.set 2 (.slice p11a3 Y.1.length p11ak3) (by simp)
        replace Ho3a := Lib.hid (Ho3a.out.kp (kp_set (p := ⟨v19.heap.size, 2, none⟩) (u := .slice p11a3 Y.1.length p11ak3) (by (first | (simp; done) | (simp; omega) | omega)) kp_refl))
        replace Ho4 := Lib.hid (Ho4.out.kp (kp_set (p := ⟨v19.heap.size, 2, none⟩) (u := .slice p11a3 Y.1.length p11ak3) (by (first | (simp; done) | (simp; omega) | omega)) kp_refl))
        replace Ho5 := Lib.hid (Ho5.out.kp (kp_set (p := ⟨v19.heap.size, 2, none⟩) (u := .slice p11a3 Y.1.length p11ak3) (by (first | (simp; done) | (simp; omega) | omega)) kp_refl))
        replace Ho6a := Lib.hid (Ho6a.out.kp (kp_set (p := ⟨v19.heap.size, 2, none⟩) (u := .slice p11a3 Y.1.length p11ak3) (by (first | (simp; done) | (simp; omega) | omega)) kp_refl))
        replace Ho7 := Lib.hid (Ho7.out.kp (kp_set (p := ⟨v19.heap.size, 2, none⟩) (u := .slice p11a3 Y.1.length p11ak3) (by (first | (simp; done) | (simp; omega) | omega)) kp_refl))
        replace Ho8 := Lib.hid (Ho8.out.kp (kp_set (p := ⟨v19.heap.size, 2, none⟩) (u := .slice p11a3 Y.1.length p11ak3) (by (first | (simp; done) | (simp; omega) | omega)) kp_refl))
        replace Ho9 := Lib.hid (Ho9.out.kp (kp_set (p := ⟨v19.heap.size, 2, none⟩) (u := .slice p11a3 Y.1.length p11ak3) (by (first | (simp; done) | (simp; omega) | omega)) kp_refl))
        replace Ho10 := Lib.hid (Ho10.out.kp (kp_set (p := ⟨v19.heap.size, 2, none⟩) (u := .slice p11a3 Y.1.length p11ak3) (by (first | (simp; done) | (simp; omega) | omega)) kp_refl))
        replace Ho11a := Lib.hid (Ho11a.out.kp (kp_set (p := ⟨v19.heap.size, 2, none⟩) (u := .slice p11a3 Y.1.length p11ak3) (by (first | (simp; done) | (simp; omega) | omega)) kp_refl))
        replace HB := Lib.hid (HB.out.setCell (p := ⟨v19.heap.size, 2, none⟩) (by have := HB.out.size; (first | (simp; done) | (simp; omega) | omega)) (.slice p11a3 Y.1.length p11ak3))
        replace Qt2 := Qt2.setOther ⟨v19.heap.size, 3, none⟩ (.slice p11a4 Y.2.length p11ak4) (by (first | (simp; done) | (simp; omega) | omega))
        replace Qt3 := Qt3.setOther ⟨v19.heap.size, 3, none⟩ (.slice p11a4 Y.2.length p11ak4) (by (first | (simp; done) | (simp; omega) | omega))
        replace Qt6 := Qt6.setOther ⟨v19.heap.size, 3, none⟩ (.slice p11a4 Y.2.length p11ak4) (by (first | (simp; done) | (simp; omega) | omega))
        replace Qt8 := Qt8.setOther ⟨v19.heap.size, 3, none⟩ (.slice p11a4 Y.2.length p11ak4) (by (first | (simp; done) | (simp; omega) | omega))
        replace Qt9 := Qt9.setOther ⟨v19.heap.size, 3, none⟩ (.slice p11a4 Y.2.length p11ak4) (by (first | (simp; done) | (simp; omega) | omega))
        replace Qt10 := Qt10.setOther ⟨v19.heap.size, 3, none⟩ (.slice p11a4 Y.2.length p11ak4) (by (first | (simp; done) | (simp; omega) | omega))
        replace Qt15 := Qt15.set 3 (.slice p11a4 Y.2.length p11ak4) (by simp)
        replace Ho3a := Lib.hid (Ho3a.out.kp (kp_set (p := ⟨v19.heap.size, 3, none⟩) (u := .slice p11a4 Y.2.length p11ak4) (by (first | (simp; done) | (simp; omega) | omega)) kp_refl))
        replace Ho4 := Lib.hid (Ho4.out.kp (kp_set (p := ⟨v19.heap.size, 3, none⟩) (u := .slice p11a4 Y.2.length p11ak4) (by (first | (simp; done) | (simp; omega) | omega)) kp_refl))
        replace Ho5 := Lib.hid (Ho5.out.kp (kp_set (p := ⟨v19.heap.size, 3, none⟩) (u := .slice p11a4 Y.2.length p11ak4) (by (first | (simp; done) | (simp; omega) | omega)) kp_refl))
        replace Ho6a := Lib.hid (Ho6a.out.kp (kp_set (p := ⟨v19.heap.size, 3, none⟩) (u := .slice p11a4 Y.2.length p11ak4) (by (first | (simp; done) | (simp; omega) | omega)) kp_refl))
        replace Ho7 := Lib.hid (Ho7.out.kp (kp_set (p := ⟨v19.heap.size, 3, none⟩) (u := .slice p11a4 Y.2.length p11ak4) (by (first | (simp; done) | (simp; omega) | omega)) kp_refl))
        replace Ho8 := Lib.hid (Ho8.out.kp (kp_set (p := ⟨v19.heap.size, 3, none⟩) (u := .slice p11a4 Y.2.length p11ak4) (by (first | (simp; done) | (simp; omega) | omega)) kp_refl))
        replace Ho9 := Lib.hid (Ho9.out.kp (kp_set (p := ⟨v19.heap.size, 3, none⟩) (u := .slice p11a4 Y.2.length p11ak4) (by (first | (simp; done) | (simp; omega) | omega)) kp_refl))
        replace Ho10 := Lib.hid (Ho10.out.kp (kp_set (p := ⟨v19.heap.size, 3, none⟩) (u := .slice p11a4 Y.2.length p11ak4) (by (first | (simp; done) | (simp; omega) | omega)) kp_refl))
        replace Ho11a := Lib.hid (Ho11a.out.kp (kp_set (p := ⟨v19.heap.size, 3, none⟩) (u := .slice p11a4 Y.2.length p11ak4) (by (first | (simp; done) | (simp; omega) | omega)) kp_refl))
        replace HB := Lib.hid (HB.out.setCell (p := ⟨v19.heap.size, 3, none⟩) (by have := HB.out.size; (first | (simp; done) | (simp; omega) | omega)) (.slice p11a4 Y.2.length p11ak4))
        simp only [List.set_cons_succ, List.set_cons_zero] at Qt15
        refine hK.out _ _ trivial ?_
        clear hK K hS
        refine rest_take (v := ?_) 10 rfl (by kernel_rfl) (by kernel_rfl) (by kernel_rfl) (fun _ _ _ h => h) (by rfl) ?_ ?_
        rotate_left
        · intro w9; go_simp; try with_reducible rfl
        try simp only [Act.put, List.setIfInBounds_toArray, List.set_cons_zero, List.set_cons_succ]
        refine rest_done (by kernel_rfl) ?_
        go_wp2_with fail
        go_meet
        exact ⟨v19.heap.size, p11a1, p11ak1, p11a2, p11ak2, p11a3, p11ak3, p11a4, p11ak4, v21.heap.size, v22.heap.size, rfl, rfl, Qt15, Qt2, Qt3, Qt6, Qt8, Qt9, Qt10, Ho3a, Ho4, Ho5, Ho6a, Ho7, Ho8, Ho11a, by (first | (simp; done) | (simp; omega) | omega), by (first | (simp; done) | (simp; omega) | omega), by (first | (simp; done) | (simp; omega) | omega), by (first | (simp; done) | (simp; omega) | omega), by (first | (simp; done) | (simp; omega) | omega), by have := hz9; (first | (simp; done) | (simp; omega) | omega), HB⟩
    clear Qt2 qt2 pt2 lt2 Qt3 qt3 pt3 lt3 Qt6 qt6 pt6 lt6 Qt8 qt8 pt8 lt8 Qt9 qt9 pt9 lt9 Qt10 qt10 pt10 lt10 Ho3a Ho4 Ho5 Ho6a Ho7 Ho8 HB
    obtain ⟨B15, p11a1, p11ak1, p11a2, p11ak2, p11a3, p11ak3, p11a4, p11ak4, loo11a, hio11a, rfl, rfl, Qt15, Qt2, Qt3, Qt6, Qt8, Qt9, Qt10, Ho3a, Ho4, Ho5, Ho6a, Ho7, Ho8, Ho11a, hy1, hlo11a, hmo11a, hho11a, hdo11a, hw1, HB⟩ := hcut
    obtain ⟨v23, HV⟩ : ∃ V, Hid (V = wc) := ⟨wc, Lib.hid rfl⟩
    have eV := HV.out
    subst eV
    clear HV
    have hxt15 := Qt15.1
    have qt2 := Qt2.2
    have pt2 := Qt2.1
    have lt2 := Nat.le_of_lt Qt2.1
    have qt3 := Qt3.2
    have pt3 := Qt3.1
    have lt3 := Nat.le_of_lt Qt3.1
    have qt6 := Qt6.2
    have pt6 := Qt6.1
    have lt6 := Nat.le_of_lt Qt6.1
    have qt8 := Qt8.2
    have pt8 := Qt8.1
    have lt8 := Nat.le_of_lt Qt8.1
    have qt9 := Qt9.2
    have pt9 := Qt9.1
    have lt9 := Nat.le_of_lt Qt9.1
    have qt10 := Qt10.2
    have pt10 := Qt10.1
    have lt10 := Nat.le_of_lt Qt10.1
    have qt15 := Qt15.2
    have pt15 := Qt15.1
    have lt15 := Nat.le_of_lt Qt15.1
    go_wp2_with fail
    refine (c_eqTwo_o Ho11a.out Ho3a.out).mono ?_
    rintro e9 v24 ⟨rfl, hb⟩
    have hz15 := hb.size
    replace Qt2 := Qt2.below hb
    replace Qt3 := Qt3.below hb
    replace Qt6 := Qt6.below hb
    replace Qt8 := Qt8.below hb
    replace Qt9 := Qt9.below hb
    replace Qt10 := Qt10.below hb
    replace Qt15 := Qt15.below hb
    replace Ho3a := Lib.hid (Ho3a.out.kp (kp_of_below hb (by (first | (simp; done) | (simp; omega) | omega))))
    replace Ho4 := Lib.hid (Ho4.out.kp (kp_of_below hb (by (first | (simp; done) | (simp; omega) | omega))))
    replace Ho5 := Lib.hid (Ho5.out.kp (kp_of_below hb (by (first | (simp; done) | (simp; omega) | omega))))
    replace Ho6a := Lib.hid (Ho6a.out.kp (kp_of_below hb (by (first | (simp; done) | (simp; omega) | omega))))
    replace Ho7 := Lib.hid (Ho7.out.kp (kp_of_below hb (by (first | (simp; done) | (simp; omega) | omega))))
    replace Ho8 := Lib.hid (Ho8.out.kp (kp_of_below hb (by (first | (simp; done) | (simp; omega) | omega))))
    replace Ho11a := Lib.hid (Ho11a.out.kp (kp_of_below hb (by (first | (simp; done) | (simp; omega) | omega))))
    replace HB := Lib.hid (bl_step hb HB.out.size HB.out)
    replace qt2 := Qt2.2
    replace pt2 := Qt2.1
    replace lt2 := Nat.le_of_lt Qt2.1
    replace qt3 := Qt3.2
    replace pt3 := Qt3.1
    replace lt3 := Nat.le_of_lt Qt3.1
    replace qt6 := Qt6.2
    replace pt6 := Qt6.1
    replace lt6 := Nat.le_of_lt Qt6.1
    replace qt8 := Qt8.2
    replace pt8 := Qt8.1
    replace lt8 := Nat.le_of_lt Qt8.1
    replace qt9 := Qt9.2
    replace pt9 := Qt9.1
    replace lt9 := Nat.le_of_lt Qt9.1
    replace qt10 := Qt10.2
    replace pt10 := Qt10.1
    replace lt10 := Nat.le_of_lt Qt10.1
    replace qt15 := Qt15.2
    replace pt15 := Qt15.1
    replace lt15 := Nat.le_of_lt Qt15.1
    clear hb
    go_wp2_with fail
    have hc9 := c_heldTwo_o (k := 1) Ho6a.out (by omega) (by have := hN_XY; rw [Hn_XY.out]; omega) ⟨HSX.out.1, HSY.out.1⟩
    rw [Hn_XY.out] at hc9
    refine hc9.mono ?_
    clear hc9
    rintro e9 v25 ⟨rfl, hb⟩
    have hz16 := hb.size
    replace Qt2 := Qt2.below hb
    replace Qt3 := Qt3.below hb
    replace Qt6 := Qt6.below hb
    replace Qt8 := Qt8.below hb
    replace Qt9 := Qt9.below hb
    replace Qt10 := Qt10.below hb
    replace Qt15 := Qt15.below hb
    replace Ho3a := Lib.hid (Ho3a.out.kp (kp_of_below hb (by (first | (simp; done) | (simp; omega) | omega))))
    replace Ho4 := Lib.hid (Ho4.out.kp (kp_of_below hb (by (first | (simp; done) | (simp; omega) | omega))))
    replace Ho5 := Lib.hid (Ho5.out.kp (kp_of_below hb (by (first | (simp; done) | (simp; omega) | omega))))
    replace Ho6a := Lib.hid (Ho6a.out.kp (kp_of_below hb (by (first | (simp; done) | (simp; omega) | omega))))
    replace Ho7 := Lib.hid (Ho7.out.kp (kp_of_below hb (by (first | (simp; done) | (simp; omega) | omega))))
    replace Ho8 := Lib.hid (Ho8.out.kp (kp_of_below hb (by (first | (simp; done) | (simp; omega) | omega))))
    replace Ho11a := Lib.hid (Ho11a.out.kp (kp_of_below hb (by (first | (simp; done) | (simp; omega) | omega))))
    replace HB := Lib.hid (bl_step hb HB.out.size HB.out)
    replace qt2 := Qt2.2
    replace pt2 := Qt2.1
    replace lt2 := Nat.le_of_lt Qt2.1
    replace qt3 := Qt3.2
    replace pt3 := Qt3.1
    replace lt3 := Nat.le_of_lt Qt3.1
    replace qt6 := Qt6.2
    replace pt6 := Qt6.1
    replace lt6 := Nat.le_of_lt Qt6.1
    replace qt8 := Qt8.2
    replace pt8 := Qt8.1
    replace lt8 := Nat.le_of_lt Qt8.1
    replace qt9 := Qt9.2
    replace pt9 := Qt9.1
    replace lt9 := Nat.le_of_lt Qt9.1
    replace qt10 := Qt10.2
    replace pt10 := Qt10.1
    replace lt10 := Nat.le_of_lt Qt10.1
    replace qt15 := Qt15.2
    replace pt15 := Qt15.1
    replace lt15 := Nat.le_of_lt Qt15.1
    clear hb
    go_wp2_with fail
    go_ret
    exact ⟨by simp, HB.out⟩

end Go.Proofs.Ytmjafclpeknpcaa
/- A pair of disks as an argument: opened. -/
namespace Go.Proofs.Ytmjafclpeknpcaa
open Go.ChangeShapes Go.WideShapes Go.ChangeAt Go.RowKit Go.Deep
section
variable {H : Type} {enc : TypeId × Value → H} {P : Program} {w : World} {base : Nat} {spare : Nat → Bool} {held : Bool}
theorem open_rowsv {tR tI : TypeId} {v : Value} (f1 : flat P 5 tR = some [.slice tI]) (c1 : P.cellsOf tR = 1) (f2 : flat P 5 tI = some [.int]) (c2 : P.cellsOf tI = 1) (h : ClOk enc P w base spare held (.slice tR) v) :
    ∃ (ao : Option Addr) (cap : Nat) (K : List (List Int)), v = .slice ao K.length cap ∧ RowsR w ao K := by
  obtain ⟨K, hK⟩ := rd_list intsN c1 (opens_slice numE f1 c2 (opens_num f2)) h
  obtain ⟨ao, cap, rfl, hr, _⟩ := rd_rows hK
  exact ⟨ao, cap, K, rfl, hr⟩
theorem open_writesv {tW tI : TypeId} {v : Value} (f1 : flat P 5 tW = some [.int, .slice tI]) (c1 : P.cellsOf tW = 2) (f2 : flat P 5 tI = some [.int]) (c2 : P.cellsOf tI = 1) (h : ClOk enc P w base spare held (.slice tW) v) :
    ∃ (ao : Option Addr) (cap : Nat) (K : List (Int × List Int)), v = .slice ao K.length cap ∧ WritesR w ao K := by
  obtain ⟨K, hK⟩ := rd_list writeN c1 (opens_numslice numE f1 c2 (opens_num f2)) h
  obtain ⟨ao, cap, rfl, hr, _⟩ := rd_writes hK
  exact ⟨ao, cap, K, rfl, hr⟩
end
end Go.Proofs.Ytmjafclpeknpcaa
