/- Texts of the proof, merged: part 4. -/
import Derived.Test.YtmjafclpeknpcaaKhC
import Derived.Test.YtmjafclpeknpcaaMarkR
import Derived.Test.YtmjafclpeknpcaaSlMark
import Derived.WalkKit
import Derived.WalkSpells
import Derived.Deep.QuietTactic
import Derived.BigQuiet
import Derived.Deep.Light
import Derived.Lib.Hide
import Derived.IntWalk
import Derived.Test.YtmjafclpeknpcaaNTwoCopy
import Derived.Deep.DeepCutAuto
import Derived.Test.YtmjafclpeknpcaaBx
/- How the laws count what a list of rows, a list of writes, a disk holds. -/
namespace Go.Proofs.Ytmjafclpeknpcaa
open Go.ChangeShapes Go.WideShapes Go.ChangeAt Go.RowKit Go.Deep
set_option maxHeartbeats 800000
set_option maxRecDepth 100000
theorem c_szInt64S (ao : Option Addr) (cap n : Nat) (left : Int) (w : World) (h0 : 0 ≤ left) (h1 : left ≤ 1048576) (hn : n ≤ 9223372036854775807) :
    Calls Try.prog 127 #[.slice ao n cap, .int .i64 left] w fun e w' => e = .returned (.int .i64 (szB left n)) ∧ w = w' := by
  by_cases hlt : left - n < 0
  · have Hs := Lib.hid (szB_neg hlt)
    go_enter Try.func127, Try.ntmps127
    go_wp2
    go_ret
    exact ⟨by rw [Hs.out]; rfl, rfl⟩
  · have Hs := Lib.hid (szB_pos hlt)
    go_enter Try.func127, Try.ntmps127
    go_wp2
    go_ret
    exact ⟨by rw [Hs.out]; rfl, rfl⟩
theorem c_szInt64SS (ao : Option Addr) (cap : Nat) (K : List (List Int)) (left : Int) (w : World) (hK : RowsR w ao K) (h0 : 0 ≤ left) (h1 : left ≤ 1048576) :
    Calls Try.prog 72 #[.slice ao K.length cap, .int .i64 left] w fun e w' => e = .returned (.int .i64 (szB left (szRows K))) ∧ w = w' := by
  have hm := hK.1
  by_cases hlt : left - K.length < 0
  · have Hs := Lib.hid (szB_neg (left := left) (n := szRows K) (by unfold szRows; omega))
    go_enter Try.func72, Try.ntmps72
    go_wp2
    go_ret
    exact ⟨by rw [Hs.out]; rfl, rfl⟩
  · go_enter Try.func72, Try.ntmps72
    go_wp2
    go_loop [1, 5] (fun s i => ∃ q : Nat, q ≤ K.length ∧ i = .int .i64 q ∧ s = .int .i64 (left - K.length - lenSum (K.take q)) ∧ Hid (0 ≤ left - (K.length : Int) - lenSum (K.take q))) (fun _ i => K.length - (intOf i).toNat)
    case atStart => exact ⟨0, Nat.zero_le _, rfl, by simp [lenSum], by simp [lenSum, Hid]; omega⟩
    case round =>
      obtain ⟨q, hq, rfl, rfl, Hp⟩ := hrel
      by_cases hqt : q < K.length
      · have hp : (q : Int) < (K.length : Int) := by omega
        obtain ⟨b, off, rfl, hbl, hc⟩ := hK.at hqt
        obtain ⟨ai, ci, hcell, hr, hci⟩ := hc q hqt
        have hrm := hr.2.1
        have Ht := Lib.hid (lenSum_take hqt)
        have Hle := Lib.hid (lenSum_le K (q + 1))
        obtain ⟨s, hs⟩ : ∃ s : Int, left - (K.length : Int) - lenSum (K.take q) = s := ⟨_, rfl⟩
        have hs0 : 0 ≤ s := by have := Hp.out; omega
        have hs1 : s ≤ 1048576 := by omega
        have Hsq := Lib.hid hs
        rw [hs]
        clear hc hs Hp
        by_cases hneg : s - K[q].length < 0
        · have hz : szB s K[q].length = -1 := szB_neg hneg
          go_wp2_with fail
          refine (c_szInt64S ai ci _ s _ hs0 hs1 hrm).mono ?_
          rw [hz]
          rintro e w' ⟨rfl, rfl⟩
          have Hs := Lib.hid (szB_neg (left := left) (n := szRows K) (by have := Ht.out; have := Hle.out; have := Hsq.out; unfold szRows; omega))
          go_wp2_with fail
          go_ret
          exact ⟨by rw [Hs.out]; rfl, rfl⟩
        · have hz : szB s K[q].length = s - K[q].length := szB_pos hneg
          go_wp2_with fail
          refine (c_szInt64S ai ci _ s _ hs0 hs1 hrm).mono ?_
          rw [hz]
          rintro e w' ⟨rfl, rfl⟩
          go_wp2_with fail
          go_round
          case rel => exact ⟨q + 1, by omega, by go_num, by have := Ht.out; have := Hsq.out; congr 1; omega, by have := Ht.out; have := Hsq.out; show (0 : Int) ≤ _; omega⟩
          case measure => simp [intOf]; omega
      · obtain rfl : q = K.length := by omega
        have hp9 := Hp.out
        rw [List.take_length] at hp9
        have hz9 : ¬ left - (szRows K : Int) < 0 := by
          unfold szRows
          omega
        have Hs := Lib.hid (szB_pos hz9)
        clear hz9 hp9
        rw [List.take_length]
        go_wp2
        go_ret
        exact ⟨by rw [Hs.out]; exact congrArg (fun z => Ending.returned (Value.int .i64 z)) (by unfold szRows; omega), rfl⟩
theorem c_szWrite (a : Int) (ao : Option Addr) (cap n : Nat) (left : Int) (w : World) (h0 : 0 ≤ left) (h1 : left ≤ 1048576) (hn : n ≤ 9223372036854775807) :
    Calls Try.prog 128 #[.agg #[.int .i64 a, .slice ao n cap], .int .i64 left] w fun e w' => e = .returned (.int .i64 (szB left n)) ∧ Below w.heap.size w w' := by
  by_cases hlt : left - n < 0
  · have hs := szB_neg hlt
    go_enter Try.func128, Try.ntmps128
    go_wp2_with fail
    refine (c_szInt64S ao cap n left _ h0 h1 hn).mono ?_
    rw [hs]
    rintro e w' ⟨rfl, rfl⟩
    go_wp2_with fail
    go_ret
    exact ⟨by rw [hs]; rfl, (Below.refl _ _).alloc (Nat.le_refl _) _⟩
  · have hs := szB_pos hlt
    have hn0 : 0 ≤ left - n := by omega
    go_enter Try.func128, Try.ntmps128
    go_wp2_with fail
    refine (c_szInt64S ao cap n left _ h0 h1 hn).mono ?_
    rw [hs]
    rintro e w' ⟨rfl, rfl⟩
    have hn2 : ¬ left - (n : Int) < 0 := by omega
    go_wp2_with fail
    go_ret
    exact ⟨by rw [hs]; rfl, (Below.refl _ _).alloc (Nat.le_refl _) _⟩
theorem c_szWriteS (ao : Option Addr) (cap : Nat) (K : List (Int × List Int)) (left : Int) (w : World) (hK : WritesR w ao K) (h0 : 0 ≤ left) (h1 : left ≤ 1048576) :
    Calls Try.prog 73 #[.slice ao K.length cap, .int .i64 left] w fun e w' => e = .returned (.int .i64 (szB left (szW K))) ∧ Below w.heap.size w w' := by
  have hm := hK.1
  by_cases hlt : left - K.length < 0
  · have Hs := Lib.hid (szB_neg (left := left) (n := szW K) (by unfold szW; omega))
    go_enter Try.func73, Try.ntmps73
    go_wp2
    go_ret
    exact ⟨by rw [Hs.out]; rfl, Below.refl _ _⟩
  · go_enter Try.func73, Try.ntmps73
    go_wp2
    go_loopw [1, 5] (fun s i wr => ∃ q : Nat, q ≤ K.length ∧ i = .int .i64 q ∧ s = .int .i64 (left - K.length - lenSum (wrows (K.take q))) ∧ Hid (0 ≤ left - (K.length : Int) - lenSum (wrows (K.take q))) ∧ Below w.heap.size w wr) (fun _ i _ => K.length - (intOf i).toNat)
    case atStart => exact ⟨0, Nat.zero_le _, rfl, by simp [lenSum, wrows], by simp [lenSum, wrows, Hid]; omega, Below.refl _ _⟩
    case round =>
      obtain ⟨q, hq, rfl, rfl, Hp, hbel⟩ := hrel
      by_cases hqt : q < K.length
      · have hp : (q : Int) < (K.length : Int) := by omega
        obtain ⟨b, off, rfl, hbl, hc⟩ := (hK.below hbel).at hqt
        obtain ⟨hia, hcell0, ai, ci, hcell, hr, hci⟩ := hc q hqt
        have hrm := hr.2.1
        have ht : lenSum (wrows (K.take (q + 1))) = lenSum (wrows (K.take q)) + K[q].2.length := by
          have h7 := szW_take hqt
          unfold szW at h7
          simp only [List.length_take] at h7
          omega
        have hle : lenSum (wrows (K.take (q + 1))) ≤ lenSum (wrows K) := by
          have h7 := lenSum_le (wrows K) (q + 1)
          rwa [wrows, ← List.map_take] at h7
        have Ht := Lib.hid ht
        have Hle := Lib.hid hle
        obtain ⟨s, hs⟩ : ∃ s : Int, left - (K.length : Int) - lenSum (wrows (K.take q)) = s := ⟨_, rfl⟩
        have hs0 : 0 ≤ s := by have := Hp.out; omega
        have hs1 : s ≤ 1048576 := by omega
        have Hsq := Lib.hid hs
        rw [hs]
        clear hc hs Hp ht hle
        generalize hKq : K[q] = d at *
        obtain ⟨a, r⟩ := d
        simp only at *
        by_cases hneg : s - r.length < 0
        · have hz : szB s r.length = -1 := szB_neg hneg
          go_wp2_with fail
          refine (c_szWrite a ai ci _ s _ hs0 hs1 hrm).mono ?_
          rw [hz]
          rintro e w2 ⟨rfl, hb2⟩
          have Hs := Lib.hid (szB_neg (left := left) (n := szW K) (by have := Ht.out; have := Hle.out; have := Hsq.out; unfold szW; omega))
          go_wp2_with fail
          go_ret
          exact ⟨by rw [Hs.out]; rfl, bl_step hb2 hbel.size hbel⟩
        · have hz : szB s r.length = s - r.length := szB_pos hneg
          go_wp2_with fail
          refine (c_szWrite a ai ci _ s _ hs0 hs1 hrm).mono ?_
          rw [hz]
          rintro e w2 ⟨rfl, hb2⟩
          go_wp2_with fail
          go_roundw
          case rel => exact ⟨q + 1, by omega, by go_num, by have := Ht.out; have := Hsq.out; congr 1; omega, by have := Ht.out; have := Hsq.out; show (0 : Int) ≤ _; omega, bl_step hb2 hbel.size hbel⟩
          case measure => simp [intOf]; omega
      · obtain rfl : q = K.length := by omega
        have hp9 := Hp.out
        rw [List.take_length] at hp9
        have hz9 : ¬ left - (szW K : Int) < 0 := by
          unfold szW
          omega
        have Hs := Lib.hid (szB_pos hz9)
        clear hz9 hp9
        rw [List.take_length]
        go_wp2
        go_ret
        exact ⟨by rw [Hs.out]; exact congrArg (fun z => Ending.returned (Value.int .i64 z)) (by unfold szW; omega), hbel⟩
theorem szB_range {left : Int} {n : Nat} (h1 : left ≤ 1048576) (h : ¬ left - (n : Int) < 0) : 0 ≤ left - (n : Int) ∧ left - (n : Int) ≤ 1048576 := by omega
/-- how much a disk is counted -/
def szD (d : List (List Int) × List (Int × List Int)) : Nat := szRows d.1 + szW d.2
theorem c_szDisk (ak aw : Option Addr) (ck cw : Nat) (d : List (List Int) × List (Int × List Int)) (left : Int) (w : World) (hK : RowsR w ak d.1) (hW : WritesR w aw d.2) (h0 : 0 ≤ left) (h1 : left ≤ 1048576) :
    Calls Try.prog 29 #[.agg #[.slice ak d.1.length ck, .slice aw d.2.length cw], .int .i64 left] w fun e w' => e = .returned (.int .i64 (szB left (szD d))) ∧ Below w.heap.size w w' := by
  have hb0 : Below w.heap.size w (w.alloc (.cells #[.slice ak d.1.length ck, .slice aw d.2.length cw] 25)) := (Below.refl _ _).alloc (Nat.le_refl _) _
  have HK := Lib.hid (hK.below hb0)
  have HW := Lib.hid (hW.below hb0)
  have hm := hK.1
  have hm2 := hW.1
  clear hK hW
  by_cases hlt : left - (szRows d.1 : Int) < 0
  · have hs := szB_neg hlt
    have Hf := Lib.hid (szB_neg (left := left) (n := szD d) (by unfold szD; omega))
    clear hlt
    go_enter Try.func29, Try.ntmps29
    go_wp2_with fail
    refine (c_szInt64SS ak ck d.1 left _ HK.out h0 h1).mono ?_
    rw [hs]
    rintro e w' ⟨rfl, rfl⟩
    go_wp2_with fail
    go_ret
    exact ⟨by rw [Hf.out]; rfl, hb0⟩
  · have hs := szB_pos hlt
    obtain ⟨r0, r1⟩ := szB_range h1 hlt
    obtain ⟨t, ht⟩ : ∃ t : Int, left - (szRows d.1 : Int) = t := ⟨_, rfl⟩
    rw [ht] at hs r0 r1
    have Ht := Lib.hid ht
    clear hlt ht
    have hn2 : ¬ t < 0 := by omega
    by_cases hlt2 : t - (szW d.2 : Int) < 0
    · have hs2 := szB_neg hlt2
      have Hf := Lib.hid (szB_neg (left := left) (n := szD d) (by have := Ht.out; unfold szD; omega))
      clear hlt2
      go_enter Try.func29, Try.ntmps29
      go_wp2_with fail
      refine (c_szInt64SS ak ck d.1 left _ HK.out h0 h1).mono ?_
      rw [hs]
      rintro e w' ⟨rfl, rfl⟩
      go_wp2_with fail
      refine (c_szWriteS aw cw d.2 t _ HW.out r0 r1).mono ?_
      rw [hs2]
      rintro e w2 ⟨rfl, hb2⟩
      go_wp2_with fail
      go_ret
      exact ⟨by rw [Hf.out]; rfl, bl_step hb2 hb0.size hb0⟩
    · have hs2 := szB_pos hlt2
      have Hf := Lib.hid (szB_pos (left := left) (n := szD d) (by have := Ht.out; unfold szD; omega))
      have hn3 : ¬ t - (szW d.2 : Int) < 0 := hlt2
      clear hlt2
      go_enter Try.func29, Try.ntmps29
      go_wp2_with fail
      refine (c_szInt64SS ak ck d.1 left _ HK.out h0 h1).mono ?_
      rw [hs]
      rintro e w' ⟨rfl, rfl⟩
      go_wp2_with fail
      refine (c_szWriteS aw cw d.2 t _ HW.out r0 r1).mono ?_
      rw [hs2]
      rintro e w2 ⟨rfl, hb2⟩
      go_wp2_with fail
      go_ret
      exact ⟨by rw [Hf.out]; exact congrArg (fun z => Ending.returned (Value.int .i64 z)) (by have := Ht.out; unfold szD; omega), bl_step hb2 hb0.size hb0⟩
theorem c_szTwo (ak aw bk bw : Option Addr) (ck cw dk dw : Nat) (d e : List (List Int) × List (Int × List Int)) (left : Int) (w : World) (hK : RowsR w ak d.1 ∧ WritesR w aw d.2) (hW : RowsR w bk e.1 ∧ WritesR w bw e.2) (h0 : 0 ≤ left) (h1 : left ≤ 1048576) :
    Calls Try.prog 7 #[.agg #[.slice ak d.1.length ck, .slice aw d.2.length cw, .slice bk e.1.length dk, .slice bw e.2.length dw], .int .i64 left] w fun en w' => en = .returned (.int .i64 (szB left (szD d + szD e))) ∧ Below w.heap.size w w' := by
  have hb0 : Below w.heap.size w (w.alloc (.cells #[.slice ak d.1.length ck, .slice aw d.2.length cw, .slice bk e.1.length dk, .slice bw e.2.length dw] 27)) := (Below.refl _ _).alloc (Nat.le_refl _) _
  have HK : Hid (∀ W, Below w.heap.size w W → RowsR W ak d.1 ∧ WritesR W aw d.2) := fun W hb => ⟨hK.1.below hb, hK.2.below hb⟩
  have HW : Hid (∀ W, Below w.heap.size w W → RowsR W bk e.1 ∧ WritesR W bw e.2) := fun W hb => ⟨hW.1.below hb, hW.2.below hb⟩
  clear hK hW
  by_cases hlt : left - (szD d : Int) < 0
  · have hs := szB_neg hlt
    have Hf := Lib.hid (szB_neg (left := left) (n := szD d + szD e) (by omega))
    clear hlt
    go_enter Try.func7, Try.ntmps7
    go_wp2_with fail
    refine (c_szDisk ak aw ck cw d left _ (HK.out _ hb0).1 (HK.out _ hb0).2 h0 h1).mono ?_
    rw [hs]
    rintro en w1 ⟨rfl, hb1⟩
    obtain ⟨hc, hf, hsz⟩ := bcell hb1
    have hz := hb1.size
    simp only [World.size_alloc] at hz
    go_wp2_with fail
    go_ret
    exact ⟨by rw [Hf.out]; rfl, by (repeat (first | with_reducible exact Below.refl _ _ | ((with_reducible refine bl_alloc ?_ ?_); (focus (first | (simp; done) | (simp; omega) | omega))) | ((with_reducible refine bl_set ?_ ?_); (focus (first | (simp; done) | (simp; omega) | omega))) | ((with_reducible refine bl_later ?_ ?_); (focus (first | (simp; done) | (simp; omega) | omega))) | with_reducible refine bl_drew ?_ | with_reducible refine bl_drewN ?_ | ((with_reducible refine bl_step (by assumption) ?_ ?_); (focus (first | (simp; done) | (simp; omega) | omega)))))⟩
  · have hs := szB_pos hlt
    obtain ⟨r0, r1⟩ := szB_range h1 hlt
    obtain ⟨t, ht⟩ : ∃ t : Int, left - (szD d : Int) = t := ⟨_, rfl⟩
    rw [ht] at hs r0 r1
    have Ht := Lib.hid ht
    clear hlt ht
    have hn2 : ¬ t < 0 := by omega
    by_cases hlt2 : t - (szD e : Int) < 0
    · have hs2 := szB_neg hlt2
      have Hf := Lib.hid (szB_neg (left := left) (n := szD d + szD e) (by have := Ht.out; omega))
      clear hlt2
      go_enter Try.func7, Try.ntmps7
      go_wp2_with fail
      refine (c_szDisk ak aw ck cw d left _ (HK.out _ hb0).1 (HK.out _ hb0).2 h0 h1).mono ?_
      rw [hs]
      rintro en w1 ⟨rfl, hb1⟩
      obtain ⟨hc, hf, hsz⟩ := bcell hb1
      have hz := hb1.size
      simp only [World.size_alloc] at hz
      go_wp2_with fail
      refine (c_szDisk bk bw dk dw e t _ (HW.out _ (by (repeat (first | with_reducible exact Below.refl _ _ | ((with_reducible refine bl_alloc ?_ ?_); (focus (first | (simp; done) | (simp; omega) | omega))) | ((with_reducible refine bl_set ?_ ?_); (focus (first | (simp; done) | (simp; omega) | omega))) | ((with_reducible refine bl_later ?_ ?_); (focus (first | (simp; done) | (simp; omega) | omega))) | with_reducible refine bl_drew ?_ | with_reducible refine bl_drewN ?_ | ((with_reducible refine bl_step (by assumption) ?_ ?_); (focus (first | (simp; done) | (simp; omega) | omega))))))).1 (HW.out _ (by (repeat (first | with_reducible exact Below.refl _ _ | ((with_reducible refine bl_alloc ?_ ?_); (focus (first | (simp; done) | (simp; omega) | omega))) | ((with_reducible refine bl_set ?_ ?_); (focus (first | (simp; done) | (simp; omega) | omega))) | ((with_reducible refine bl_later ?_ ?_); (focus (first | (simp; done) | (simp; omega) | omega))) | with_reducible refine bl_drew ?_ | with_reducible refine bl_drewN ?_ | ((with_reducible refine bl_step (by assumption) ?_ ?_); (focus (first | (simp; done) | (simp; omega) | omega))))))).2 r0 r1).mono ?_
      rw [hs2]
      rintro en w2 ⟨rfl, hb2⟩
      go_wp2_with fail
      go_ret
      exact ⟨by rw [Hf.out]; rfl, by (repeat (first | with_reducible exact Below.refl _ _ | ((with_reducible refine bl_alloc ?_ ?_); (focus (first | (simp; done) | (simp; omega) | omega))) | ((with_reducible refine bl_set ?_ ?_); (focus (first | (simp; done) | (simp; omega) | omega))) | ((with_reducible refine bl_later ?_ ?_); (focus (first | (simp; done) | (simp; omega) | omega))) | with_reducible refine bl_drew ?_ | with_reducible refine bl_drewN ?_ | ((with_reducible refine bl_step (by assumption) ?_ ?_); (focus (first | (simp; done) | (simp; omega) | omega)))))⟩
    · have hs2 := szB_pos hlt2
      have Hf := Lib.hid (szB_pos (left := left) (n := szD d + szD e) (by have := Ht.out; omega))
      have hn3 : ¬ t - (szD e : Int) < 0 := hlt2
      clear hlt2
      go_enter Try.func7, Try.ntmps7
      go_wp2_with fail
      refine (c_szDisk ak aw ck cw d left _ (HK.out _ hb0).1 (HK.out _ hb0).2 h0 h1).mono ?_
      rw [hs]
      rintro en w1 ⟨rfl, hb1⟩
      obtain ⟨hc, hf, hsz⟩ := bcell hb1
      have hz := hb1.size
      simp only [World.size_alloc] at hz
      go_wp2_with fail
      refine (c_szDisk bk bw dk dw e t _ (HW.out _ (by (repeat (first | with_reducible exact Below.refl _ _ | ((with_reducible refine bl_alloc ?_ ?_); (focus (first | (simp; done) | (simp; omega) | omega))) | ((with_reducible refine bl_set ?_ ?_); (focus (first | (simp; done) | (simp; omega) | omega))) | ((with_reducible refine bl_later ?_ ?_); (focus (first | (simp; done) | (simp; omega) | omega))) | with_reducible refine bl_drew ?_ | with_reducible refine bl_drewN ?_ | ((with_reducible refine bl_step (by assumption) ?_ ?_); (focus (first | (simp; done) | (simp; omega) | omega))))))).1 (HW.out _ (by (repeat (first | with_reducible exact Below.refl _ _ | ((with_reducible refine bl_alloc ?_ ?_); (focus (first | (simp; done) | (simp; omega) | omega))) | ((with_reducible refine bl_set ?_ ?_); (focus (first | (simp; done) | (simp; omega) | omega))) | ((with_reducible refine bl_later ?_ ?_); (focus (first | (simp; done) | (simp; omega) | omega))) | with_reducible refine bl_drew ?_ | with_reducible refine bl_drewN ?_ | ((with_reducible refine bl_step (by assumption) ?_ ?_); (focus (first | (simp; done) | (simp; omega) | omega))))))).2 r0 r1).mono ?_
      rw [hs2]
      rintro en w2 ⟨rfl, hb2⟩
      go_wp2_with fail
      go_ret
      exact ⟨by rw [Hf.out]; exact congrArg (fun z => Ending.returned (Value.int .i64 z)) (by have := Ht.out; omega), by (repeat (first | with_reducible exact Below.refl _ _ | ((with_reducible refine bl_alloc ?_ ?_); (focus (first | (simp; done) | (simp; omega) | omega))) | ((with_reducible refine bl_set ?_ ?_); (focus (first | (simp; done) | (simp; omega) | omega))) | ((with_reducible refine bl_later ?_ ?_); (focus (first | (simp; done) | (simp; omega) | omega))) | with_reducible refine bl_drew ?_ | with_reducible refine bl_drewN ?_ | ((with_reducible refine bl_step (by assumption) ?_ ?_); (focus (first | (simp; done) | (simp; omega) | omega)))))⟩
end Go.Proofs.Ytmjafclpeknpcaa
/- What the laws do to a pair of disks of its own. -/
namespace Go.Proofs.Ytmjafclpeknpcaa
open Go.ChangeShapes Go.WideShapes Go.ChangeAt Go.RowKit Go.Deep
theorem Out.kp {lo hi lo' hi' : Nat} {w w' : World} (h : Out lo hi w w') (hd : hi' ≤ lo ∨ hi ≤ lo') (hs : hi' ≤ w.heap.size) : Kp lo' hi' w w' := ⟨h.size, fun k h1 h2 => h.block k (by omega) (by omega)⟩
theorem Bx.out {w w' : World} {b lo hi : Nat} {L : List Value} (h : Bx w b L) (ho : Out lo hi w w') (hd : b < lo ∨ hi ≤ b) : Bx w' b L := h.kp (ho.kp (by omega) h.1)
section
variable {w : World} {lo hi lo2 hi2 : Nat} {d e : List (List Int) × List (Int × List Int)} {a1 a2 a3 a4 b1 b2 b3 b4 : Option Addr} {c1 c2 c3 c4 k1 k2 k3 k4 : Nat}
theorem Sp.two (h : Sp twoO w lo hi (d, e) [.slice a1 d.1.length c1, .slice a2 d.2.length c2, .slice a3 e.1.length c3, .slice a4 e.2.length c4]) : DiskR w a1 a2 d ∧ DiskR w a3 a4 e :=
  ⟨(Sp.fst (va := [.slice a1 d.1.length c1, .slice a2 d.2.length c2]) (vb := [.slice a3 e.1.length c3, .slice a4 e.2.length c4]) rfl h).diskR, (Sp.snd (va := [.slice a1 d.1.length c1, .slice a2 d.2.length c2]) (vb := [.slice a3 e.1.length c3, .slice a4 e.2.length c4]) rfl h).diskR⟩
theorem c_eqTwo_o (h : Sp twoO w lo hi (d, e) [.slice a1 d.1.length c1, .slice a2 d.2.length c2, .slice a3 e.1.length c3, .slice a4 e.2.length c4]) (h2 : Sp twoO w lo2 hi2 (d, e) [.slice b1 d.1.length k1, .slice b2 d.2.length k2, .slice b3 e.1.length k3, .slice b4 e.2.length k4]) :
    Calls Try.prog 12 #[.agg #[.slice a1 d.1.length c1, .slice a2 d.2.length c2, .slice a3 e.1.length c3, .slice a4 e.2.length c4], .agg #[.slice b1 d.1.length k1, .slice b2 d.2.length k2, .slice b3 e.1.length k3, .slice b4 e.2.length k4]] w fun en w' => en = .returned (.bool true) ∧ Below w.heap.size w w' :=
  c_eqTwo_same a1 a2 a3 a4 b1 b2 b3 b4 c1 c2 c3 c4 k1 k2 k3 k4 d e w h.two.1 h.two.2 h2.two.1 h2.two.2
theorem c_markTwo_o (h : Sp twoO w lo hi (d, e) [.slice a1 d.1.length c1, .slice a2 d.2.length c2, .slice a3 e.1.length c3, .slice a4 e.2.length c4]) {k : Int} (hk : 0 ≤ k) (hk2 : k + (mkSum d + mkSum e : Nat) ≤ 1099511627776) (hI : DiskIn d ∧ DiskIn e) :
    Calls Try.prog 13 #[.agg #[.slice a1 d.1.length c1, .slice a2 d.2.length c2, .slice a3 e.1.length c3, .slice a4 e.2.length c4], .int .i64 k] w fun en w' => en = .returned (.int .i64 (k + (mkSum d + mkSum e : Nat))) ∧ Sp twoO w' lo hi (mkDisk k d, mkDisk (k + mkSum d) e) [.slice a1 d.1.length c1, .slice a2 d.2.length c2, .slice a3 e.1.length c3, .slice a4 e.2.length c4] ∧ Out lo hi w w' := by
  obtain ⟨F, h1, h2, h3, h4⟩ := h
  refine (c_markTwo a1 a2 a3 a4 c1 c2 c3 c4 d e F k w h1 h2 h4 hk hk2 hI.1 hI.2).mono ?_
  rintro en w' ⟨rfl, m1, m2, m3⟩
  exact ⟨rfl, ⟨F, m1, h2, h3, m2⟩, m3.out h3⟩
theorem len_mkDisk (k : Int) (d : List (List Int) × List (Int × List Int)) : (mkDisk k d).1.length = d.1.length ∧ (mkDisk k d).2.length = d.2.length := ⟨length_mkRows _ _, length_mkWrites _ _⟩
theorem c_heldTwo_o {k : Int} (h : Sp twoO w lo hi (mkDisk k d, mkDisk (k + mkSum d) e) [.slice a1 d.1.length c1, .slice a2 d.2.length c2, .slice a3 e.1.length c3, .slice a4 e.2.length c4]) (hk : 0 ≤ k) (hk2 : k + (mkSum d + mkSum e : Nat) ≤ 1099511627776) (hI : DiskIn d ∧ DiskIn e) :
    Calls Try.prog 14 #[.agg #[.slice a1 d.1.length c1, .slice a2 d.2.length c2, .slice a3 e.1.length c3, .slice a4 e.2.length c4], .int .i64 k] w fun en w' => en = .returned (.int .i64 (k + (mkSum d + mkSum e : Nat))) ∧ Below w.heap.size w w' := by
  have e1 := len_mkDisk k d
  have e2 := len_mkDisk (k + mkSum d) e
  have h' := h
  rw [← e1.1, ← e1.2, ← e2.1, ← e2.2] at h'
  exact c_heldTwo a1 a2 a3 a4 c1 c2 c3 c4 d e k w h'.two.1 h'.two.2 hk hk2 hI.1 hI.2
theorem lenSum_mem {K : List (List Int)} {r : List Int} (h : r ∈ K) : r.length ≤ lenSum K := by
  induction K with
  | nil => simp at h
  | cons x K ih =>
    rw [lenSum_cons]
    rcases List.mem_cons.1 h with rfl | h
    · omega
    · have := ih h; omega
theorem szD_in {d : List (List Int) × List (Int × List Int)} (h : szD d ≤ 1048576) : DiskIn d := by
  have h1 : d.1.length + lenSum d.1 + (d.2.length + lenSum (wrows d.2)) ≤ 1048576 := h
  refine ⟨by omega, by omega, by omega, fun k hk => ?_⟩
  have := lenSum_mem (K := wrows d.2) (r := d.2[k].2) (List.mem_map.2 ⟨d.2[k], List.getElem_mem hk, rfl⟩)
  omega
theorem mkSum_le {d : List (List Int) × List (Int × List Int)} (h : szD d ≤ 1048576) : mkSum d ≤ 1048576 := by
  have h1 : d.1.length + lenSum d.1 + szW d.2 ≤ 1048576 := h
  unfold mkSum; omega
/-- what an operation makes of a disk stays small -/
def Small (d : List (List Int) × List (Int × List Int)) : Prop := DiskIn d ∧ mkSum d ≤ 2097152
theorem small_sz {d : List (List Int) × List (Int × List Int)} (h : szD d ≤ 1048576) : Small d := ⟨szD_in h, by have := mkSum_le h; omega⟩
theorem lenSum_bound {K : List (List Int)} {m : Nat} (h : ∀ r ∈ K, r.length ≤ m) : lenSum K ≤ K.length * m := by
  induction K with
  | nil => simp [lenSum]
  | cons r K ih =>
    have h1 := h r (by simp)
    have h2 := ih (fun x hx => h x (by simp [hx]))
    rw [lenSum_cons, List.length_cons, Nat.succ_mul]
    omega
theorem small_of {d : List (List Int) × List (Int × List Int)} (h1 : d.1.length ≤ 40) (h2 : ∀ r ∈ d.1, r.length ≤ 48) (h3 : d.2.length ≤ 60) (h4 : ∀ r ∈ d.2, r.2.length ≤ 48) : Small d := by
  have k1 := lenSum_bound h2
  have k2 := lenSum_bound (K := wrows d.2) (m := 48) (fun r hr => by
    obtain ⟨x, hx, rfl⟩ := List.mem_map.1 hr
    exact h4 x hx)
  have k3 : (wrows d.2).length = d.2.length := by simp [wrows]
  rw [k3] at k2
  have k4 : d.1.length * 48 ≤ 40 * 48 := Nat.mul_le_mul_right _ h1
  have k5 : d.2.length * 48 ≤ 60 * 48 := Nat.mul_le_mul_right _ h3
  refine ⟨⟨by omega, by omega, by omega, fun k hk => ?_⟩, ?_⟩
  · have := h4 _ (List.getElem_mem hk); omega
  · have e : szW d.2 = d.2.length + lenSum (wrows d.2) := rfl
    unfold mkSum; rw [e]; omega
theorem diskOk_small {d : List (List Int) × List (Int × List Int)} (h : diskOk d = true) : d.1.length ≤ 40 ∧ (∀ r ∈ d.1, r.length ≤ 48) ∧ d.2.length ≤ 60 ∧ ∀ r ∈ d.2, r.2.length ≤ 48 := by
  unfold diskOk at h
  simp only [Bool.and_eq_true, decide_eq_true_eq, List.all_eq_true] at h
  obtain ⟨h1, h2, h3, h4, h5⟩ := h
  refine ⟨h2, fun r hr => ?_, h3, fun r hr => ?_⟩
  · have := h4 r hr
    unfold rowOk at this
    simp only [Bool.and_eq_true, decide_eq_true_eq] at this
    exact this.1
  · have := h5 r hr
    unfold wrOk rowOk at this
    simp only [Bool.and_eq_true, decide_eq_true_eq] at this
    exact this.2.1
end
end Go.Proofs.Ytmjafclpeknpcaa
/- Walks of functions of the program, printed by a program of the prover. -/
namespace Go.Proofs.Ytmjafclpeknpcaa
open Go.ChangeShapes Go.WideShapes Go.ChangeAt Go.RowKit Go.Deep
set_option maxHeartbeats 1600000
set_option maxRecDepth 100000
theorem c_laws_toMark (m q i : Int) (w : World) : Calls Try.prog 102 #[.agg #[.int .i64 m, .int .i64 q, .int .i64 i]] w fun e w' => e = .returned (.agg #[.int .i64 m, .int .i64 q, .int .i64 i]) ∧ Below w.heap.size w w' := by
  go_enter Try.func102, Try.ntmps102
  go_wp2
  refine bodyPost_ret (v := .agg #[.int .i64 m, .int .i64 q, .int .i64 i]) (by simp [results, Try.results102, go_sem, *]) rfl ⟨rfl, ?_⟩
  (repeat (first | with_reducible exact Below.refl _ _ | ((with_reducible refine bl_alloc ?_ ?_); (focus (first | (simp; done) | (simp; omega) | omega))) | ((with_reducible refine bl_set ?_ ?_); (focus (first | (simp; done) | (simp; omega) | omega))) | ((with_reducible refine bl_later ?_ ?_); (focus (first | (simp; done) | (simp; omega) | omega))) | with_reducible refine bl_drew ?_ | with_reducible refine bl_drewN ?_ | ((with_reducible refine bl_step (by assumption) ?_ ?_); (focus (first | (simp; done) | (simp; omega) | omega)))))

theorem c_laws_szMarkS (ao : Option Addr) (cap n : Nat) (left : Int) (w : World) (h0 : 0 ≤ left) (h1 : left ≤ 1048576) (hn : n ≤ 9223372036854775807) :
    Calls Try.prog 45 #[.slice ao n cap, .int .i64 left] w fun e w' => e = .returned (.int .i64 (szB left n)) ∧ w = w' := by
  by_cases hlt : left - n < 0
  · have hs : szB left n = -1 := if_pos hlt
    have Hs := Lib.hid hs
    clear hs
    go_enter Try.func45, Try.ntmps45
    go_wp2
    go_ret
    exact ⟨by rw [Hs.out]; rfl, rfl⟩
  · have hs : szB left n = left - n := if_neg hlt
    have Hs := Lib.hid hs
    clear hs
    go_enter Try.func45, Try.ntmps45
    go_wp2
    go_ret
    exact ⟨by rw [Hs.out]; rfl, rfl⟩

theorem info_Mark : (Try.prog.info? 127).map (fun i => (i.zero, i.size, i.bytes)) = some (some (.agg #[.int .i64 0, .int .i64 0, .int .i64 0]), 3, 24) := by kernel_rfl
theorem c_laws_toMarkS (ao : Option Addr) (cap : Nat) (l : List (Int × Int × Int)) (w : World) (h : ReadA markE w ao l) (hs : l.length ≤ 1099511627776) :
    Calls Try.prog 52 #[.slice ao l.length cap] w (RetA markE w 127 l) := by
  have hm := h.2.1
  obtain ⟨i0, hi, hz0, hz1, hz2⟩ := info_parts info_Mark
  go_enter Try.func52, Try.ntmps52
  go_wp2_with (at_make; refine wpList_make_full _ rfl _ _ 59 rfl w.heap.size 127 i0 (.agg #[.int .i64 0, .int .i64 0, .int .i64 0]) 3 Try.underlying59 hi hz0 hz1 _ _ _ _ l.length rfl rfl rfl rfl ?c1 ?c2 ?c3 ?_)
  case c1 => rw [hz2]; omega
  case c2 => unfold maxLen; omega
  case c3 => omega
  intro w1 hown hgrow
  have hown1 : ∃ xs, PreA markE l 0 xs ∧ w1.ownsRow w.heap.size 127 3 (.slice (some ⟨w.heap.size, 0, none⟩) l.length l.length) l.length xs := ⟨_, PreA.zero hown.1, hown⟩
  have hb1 : Below w.heap.size w w1 := (Below.refl _ _).grown hgrow (Nat.le_refl _) (by simp)
  clear hown hgrow
  go_wp2
  go_loopw [4] (fun i wr => ∃ k : Nat, k ≤ l.length ∧ i = .int .i64 k ∧ (∃ xs, PreA markE l k xs ∧ wr.ownsRow w.heap.size 127 3 (.slice (some ⟨w.heap.size, 0, none⟩) l.length l.length) l.length xs) ∧ Below w.heap.size w wr)
    (fun i _ => l.length - (intOf i).toNat)
  case atStart => exact ⟨0, Nat.zero_le _, rfl, hown1, hb1⟩
  case round =>
    obtain ⟨k, hk, rfl, ⟨xs, hpre, hown⟩, hbel⟩ := hrel
    clear hown1 hb1
    by_cases hlt : k < l.length
    · obtain ⟨b, off, rfl, hbl, hc⟩ := mark_at h hlt
      have hck0 : _ := (hbel.cell (p := ⟨b, off + k * 3, none⟩) hbl).trans (hc k hlt).1
      have hck1 : _ := (hbel.cell (p := ⟨b, off + k * 3 + 1, none⟩) hbl).trans (hc k hlt).2.1
      have hck2 : _ := (hbel.cell (p := ⟨b, off + k * 3 + 2, none⟩) hbl).trans (hc k hlt).2.2
      clear hc
      have Hpre := Lib.hid hpre
      have Hown := Lib.hid hown
      clear hpre hown
      go_wp2_with (go_at_call 102; refine (c_laws_toMark _ _ _ _).mono ?_; rintro e w2 ⟨rfl, hb2⟩; have hown2 := owns_below Hown.out hb2; obtain ⟨u0, hu0⟩ := Hpre.out.cell hlt (j := 0) (by decide); obtain ⟨u1, hu1⟩ := Hpre.out.cell hlt (j := 1) (by decide); obtain ⟨u2, hu2⟩ := Hpre.out.cell hlt (j := 2) (by decide); have hroom := PreA.room (E := markE) hlt; simp only [markE_n] at hroom hu0 hu1 hu2; have hcu0 := (hown2.cellAt (k * 3) (by omega)).trans hu0; have hf0 := hown2.frozenAt (k * 3); have hcu1 := (hown2.cellAt (k * 3 + 1) (by omega)).trans hu1; have hf1 := hown2.frozenAt (k * 3 + 1); have hcu2 := (hown2.cellAt (k * 3 + 2) (by omega)).trans hu2; have hf2 := hown2.frozenAt (k * 3 + 2); have Hown2 := Lib.hid hown2; clear hown2 hu0 hu1 hu2 hroom)
      go_roundw
      case rel => exact ⟨k + 1, by omega, by go_num, ⟨_, Hpre.out.step hlt, wsets_owns (markCells l[k]) _ _ _ Hown2.out⟩, wsets_below (Nat.le_refl _) (markCells l[k]) _ _ (bl_step hb2 hbel.size hbel)⟩
      case measure => simp [intOf]; omega
    · obtain rfl : k = l.length := by omega
      go_wp2
      go_ret
      exact ⟨_, _, rfl, ⟨h.1, hm, by rw [← hpre.all]; exact hown⟩, hbel⟩

theorem c_laws_eqMark_same (p0 p1 p2 : Int) (w : World) : Calls Try.prog 111 #[.agg #[.int .i64 p0, .int .i64 p1, .int .i64 p2], .agg #[.int .i64 p0, .int .i64 p1, .int .i64 p2]] w fun e w' => e = .returned (.bool true) ∧ Below w.heap.size w w' := by
  go_enter Try.func111, Try.ntmps111
  go_wp2
  go_ret
  exact ⟨rfl, by (repeat (first | with_reducible exact Below.refl _ _ | ((with_reducible refine bl_alloc ?_ ?_); (focus (first | (simp; done) | (simp; omega) | omega))) | ((with_reducible refine bl_set ?_ ?_); (focus (first | (simp; done) | (simp; omega) | omega))) | ((with_reducible refine bl_later ?_ ?_); (focus (first | (simp; done) | (simp; omega) | omega))) | with_reducible refine bl_drew ?_ | with_reducible refine bl_drewN ?_ | ((with_reducible refine bl_step (by assumption) ?_ ?_); (focus (first | (simp; done) | (simp; omega) | omega)))))⟩
theorem c_laws_eqMarkS_same (ao ao2 : Option Addr) (cap cap2 : Nat) (l : List (Int × Int × Int)) (w : World) (h : ReadA markE w ao l) (h2 : ReadA markE w ao2 l) :
    Calls Try.prog 60 #[.slice ao l.length cap, .slice ao2 l.length cap2] w fun e w' => e = .returned (.bool true) ∧ Below w.heap.size w w' := by
  have hm := h.2.1
  go_enter Try.func60, Try.ntmps60
  go_wp2
  go_loopw [5] (fun i wr => ∃ k : Nat, k ≤ l.length ∧ i = .int .i64 k ∧ Below w.heap.size w wr) (fun i _ => l.length - (intOf i).toNat)
  case atStart => exact ⟨0, Nat.zero_le _, rfl, Below.refl _ _⟩
  case round =>
    obtain ⟨k, hk, rfl, hbel⟩ := hrel
    by_cases hlt : k < l.length
    · obtain ⟨b, off, rfl, hbl, hc⟩ := mark_at h hlt
      obtain ⟨b2, off2, rfl, hbl2, hc2⟩ := mark_at h2 hlt
      have hck0 : _ := (hbel.cell (p := ⟨b, off + k * 3, none⟩) hbl).trans (hc k hlt).1
      have hck1 : _ := (hbel.cell (p := ⟨b, off + k * 3 + 1, none⟩) hbl).trans (hc k hlt).2.1
      have hck2 : _ := (hbel.cell (p := ⟨b, off + k * 3 + 2, none⟩) hbl).trans (hc k hlt).2.2
      have hcb0 : _ := (hbel.cell (p := ⟨b2, off2 + k * 3, none⟩) hbl2).trans (hc2 k hlt).1
      have hcb1 : _ := (hbel.cell (p := ⟨b2, off2 + k * 3 + 1, none⟩) hbl2).trans (hc2 k hlt).2.1
      have hcb2 : _ := (hbel.cell (p := ⟨b2, off2 + k * 3 + 2, none⟩) hbl2).trans (hc2 k hlt).2.2
      have hbw := Nat.lt_of_lt_of_le hbl hbel.size
      have hbw2 := Nat.lt_of_lt_of_le hbl2 hbel.size
      clear hc hc2
      have hp : (k : Int) < l.length := by omega
      go_wp2_with fail
      refine wp_region_later (by kernel_rfl) (by kernel_rfl) ?_
      repeat (first | go_big_quiet_step ((go_at_call 111; exact later_call (c_laws_eqMark_same _ _ _ _))) | quiet_step ((go_at_call 111; exact later_call (c_laws_eqMark_same _ _ _ _))))
      refine wpQuiet_nil ?_
      intro _ hw'
      obtain ⟨x, hw''⟩ := hw'
      subst hw''
      go_wp2
      go_roundw
      case rel => exact ⟨k + 1, by omega, by go_num, bl_later hbel.size hbel⟩
      case measure => simp [intOf]; omega
    · go_wp2
      go_ret
      exact ⟨rfl, hbel⟩

end Go.Proofs.Ytmjafclpeknpcaa
/- Walks of functions of the program, printed by a program of the prover. -/
namespace Go.Proofs.Ytmjafclpeknpcaa
open Go.ChangeShapes Go.WideShapes Go.ChangeAt Go.RowKit Go.Deep
set_option maxHeartbeats 1600000
set_option maxRecDepth 100000

def RetMarkMark (w : World) (lo : Nat) (ao : Option Addr) (cap : Nat) (n : Nat) (k : Int) (e : Ending) (w' : World) : Prop :=
  e = .returned (.int .i64 (k + 3 * n)) ∧ OwnA markE w' lo 127 (.slice ao n cap) ((List.range n).map (markMk k)) ∧ w.grownBy w' (Value.ownBlock (.slice ao n cap)) ∧ w'.heap.size = w.heap.size
theorem c_laws_markMarkS (ao : Option Addr) (cap lo : Nat) (l : List (Int × Int × Int)) (k : Int) (w : World) (h : OwnA markE w lo 127 (.slice ao l.length cap) l) (hk : 0 ≤ k) (hk2 : k ≤ 1099511627776) (hl : l.length ≤ 1099511627776) :
    Calls Try.prog 67 #[.slice ao l.length cap, .int .i64 k] w (RetMarkMark w lo ao cap l.length k) := by
  by_cases h0 : l.length = 0
  · obtain rfl : l = [] := List.eq_nil_of_length_eq_zero h0
    simp only [List.length_nil] at *
    go_enter Try.func67, Try.ntmps67
    go_wp2
    refine wp_loop_rounds 1 ?_
    rw [rounds_succ]
    go_wp2
    go_ret
    exact ⟨by simp, h, World.grownBy.refl _ _, rfl⟩
  · obtain ⟨h1, h2, h3⟩ := h
    have hg : ∃ g, ao = some ⟨g, 0, none⟩ := by
      rcases h3.2 with ⟨_, h5⟩ | ⟨g, cap', cur, h4, _⟩
      · exact absurd h5 h0
      · simp only [Value.slice.injEq] at h4
        exact ⟨g, h4.1⟩
    obtain ⟨g, rfl⟩ := hg
    have H3 := Lib.hid h3
    clear h3
    go_enter Try.func67, Try.ntmps67
    go_wp2
    go_loopw [1, 5] (fun kk i wr => ∃ q : Nat, q ≤ l.length ∧ i = .int .i64 q ∧ kk = .int .i64 (k + 3 * (q : Int)) ∧ Hid (wr.ownsRow lo 127 3 (.slice (some ⟨g, 0, none⟩) l.length cap) l.length ((markA markMk l k q).flatMap markCells)) ∧ Hid (w.grownBy wr (some g)) ∧ Hid (wr.heap.size = w.heap.size))
      (fun _ i _ => l.length - (intOf i).toNat)
    case atStart => exact ⟨0, Nat.zero_le _, rfl, by simp, by rw [markA_zero]; exact H3.out, World.grownBy.refl _ _, rfl⟩
    case round =>
      obtain ⟨q, hq, rfl, rfl, Hown, Hgr, Hsz⟩ := hrel
      by_cases hlt : q < l.length
      · have hown := Hown.out
        have hrow : ∀ j, j < 3 → ∃ u, ((markA markMk l k q).flatMap markCells)[q * 3 + j]? = some u := fun j hj => row_cell markE (by rw [length_markA markMk l k (by omega)]; exact hlt) hj
        have hroom : q * 3 + 3 ≤ l.length * 3 := by omega
        obtain ⟨u0, hu0⟩ := hrow 0 (by decide)
        have hcu0 := (hown.cellAt (q * 3) (by omega)).trans hu0
        have hf0 := hown.frozenAt (q * 3)
        obtain ⟨u1, hu1⟩ := hrow 1 (by decide)
        have hcu1 := (hown.cellAt (q * 3 + 1) (by omega)).trans hu1
        have hf1 := hown.frozenAt (q * 3 + 1)
        obtain ⟨u2, hu2⟩ := hrow 2 (by decide)
        have hcu2 := (hown.cellAt (q * 3 + 2) (by omega)).trans hu2
        have hf2 := hown.frozenAt (q * 3 + 2)
        clear hu0 hu1 hu2 hrow hown
        have hb1 : 0 ≤ k + 3 * (q : Int) := by omega
        have hb2 : k + 3 * (q : Int) ≤ 21990232555520 := by omega
        go_wp2
        go_roundw
        case rel => exact ⟨q + 1, by omega, by go_num, by go_num, Eq.mp (congrArg (fun xs => World.ownsRow _ lo _ _ _ _ xs) (markA_succ markE markMk l k hlt)) (wsets_owns (markCells (markMk k q)) _ _ _ Hown.out),
          wsets_grown (markCells (markMk k q)) _ _ Hgr.out, (wsets_size (markCells (markMk k q)) (q * 3) wr).trans Hsz.out⟩
        case measure => simp [intOf]; omega
      · obtain rfl : q = l.length := by omega
        go_wp2
        go_ret
        refine ⟨rfl, ⟨fun y hy => ?_, by simp; omega, ?_⟩, Hgr.out, Hsz.out⟩
        · obtain ⟨i, hi, rfl⟩ := List.mem_map.1 hy
          exact markMk_ok hk hk2 (by have := List.mem_range.1 hi; omega)
        · have := Hown.out
          rw [markA_all] at this
          rw [List.length_map, List.length_range]
          exact this

theorem c_laws_heldMarkS (ao : Option Addr) (cap n : Nat) (k : Int) (w : World) (h : ReadA markE w ao ((List.range n).map (markMk k))) (hk : 0 ≤ k) (hk2 : k ≤ 1099511627776) (hl : n ≤ 1099511627776) :
    Calls Try.prog 68 #[.slice ao n cap, .int .i64 k] w fun e w' => e = .returned (.int .i64 (k + 3 * n)) ∧ w = w' := by
  go_enter Try.func68, Try.ntmps68
  go_wp2
  go_loop [1, 5] (fun kk i => ∃ q : Nat, q ≤ n ∧ i = .int .i64 q ∧ kk = .int .i64 (k + 3 * (q : Int))) (fun _ i => n - (intOf i).toNat)
  case atStart => exact ⟨0, Nat.zero_le _, rfl, by simp⟩
  case round =>
    obtain ⟨q, hq, rfl, rfl⟩ := hrel
    by_cases hlt : q < n
    · have hlt2 : q < ((List.range n).map (markMk k)).length := by simpa using hlt
      obtain ⟨b, off, rfl, hbl, hc⟩ := mark_at h hlt2
      have hck0 : _ := (hc q hlt2).1
      rw [mapRange_at] at hck0
      have hck1 : _ := (hc q hlt2).2.1
      rw [mapRange_at] at hck1
      have hck2 : _ := (hc q hlt2).2.2
      rw [mapRange_at] at hck2
      simp only [markMk] at *
      clear hc
      have hb1 : 0 ≤ k + 3 * (q : Int) := by omega
      have hb2 : k + 3 * (q : Int) ≤ 21990232555520 := by omega
      go_wp2
      go_round
      case rel => exact ⟨q + 1, by omega, by go_num, by go_num⟩
      case measure => simp [intOf]; omega
    · obtain rfl : q = n := by omega
      go_wp2
      go_ret
      exact ⟨rfl, rfl⟩

end Go.Proofs.Ytmjafclpeknpcaa
/- Walks of functions of the program, printed by a program of the prover. -/
namespace Go.Proofs.Ytmjafclpeknpcaa
open Go.ChangeShapes Go.WideShapes Go.ChangeAt Go.RowKit Go.Deep
set_option maxHeartbeats 1600000
set_option maxRecDepth 100000

theorem c_laws_szHead (num base time : Int) (ao : Option Addr) (cap n : Nat) (left : Int) (w : World) (h0 : 0 ≤ left) (h1 : left ≤ 1048576) (hn : n ≤ 9223372036854775807) :
    Calls Try.prog 25 #[.agg #[.int .i64 num, .int .i64 base, .int .i64 time, .slice ao n cap], .int .i64 left] w fun e' w' => e' = .returned (.int .i64 (szB left n)) ∧ Below w.heap.size w w' := by
  by_cases hlt : left - n < 0
  · have hs := szB_neg hlt
    have Hs := Lib.hid hs
    clear hs
    have hd : decide (szB left n < 0) = true := by rw [Hs.out]; rfl
    go_enter Try.func25, Try.ntmps25
    go_wp2_with (go_at_call 45; refine (c_laws_szMarkS _ _ _ _ _ h0 h1 hn).mono ?_; rintro e w' ⟨rfl, rfl⟩)
    all_goals go_ret
    all_goals (refine ⟨by rw [Hs.out]; rfl, ?_⟩; (repeat (first | with_reducible exact Below.refl _ _ | ((with_reducible refine bl_alloc ?_ ?_); (focus (first | (simp; done) | (simp; omega) | omega))) | ((with_reducible refine bl_set ?_ ?_); (focus (first | (simp; done) | (simp; omega) | omega))) | ((with_reducible refine bl_later ?_ ?_); (focus (first | (simp; done) | (simp; omega) | omega))) | with_reducible refine bl_drew ?_ | with_reducible refine bl_drewN ?_ | ((with_reducible refine bl_step (by assumption) ?_ ?_); (focus (first | (simp; done) | (simp; omega) | omega))))))
  · have hs := szB_pos hlt
    have Hs := Lib.hid hs
    clear hs
    have hd : decide (szB left n < 0) = false := by rw [Hs.out]; simp; omega
    go_enter Try.func25, Try.ntmps25
    go_wp2_with (go_at_call 45; refine (c_laws_szMarkS _ _ _ _ _ h0 h1 hn).mono ?_; rintro e w' ⟨rfl, rfl⟩)
    all_goals go_ret
    all_goals (refine ⟨rfl, ?_⟩; (repeat (first | with_reducible exact Below.refl _ _ | ((with_reducible refine bl_alloc ?_ ?_); (focus (first | (simp; done) | (simp; omega) | omega))) | ((with_reducible refine bl_set ?_ ?_); (focus (first | (simp; done) | (simp; omega) | omega))) | ((with_reducible refine bl_later ?_ ?_); (focus (first | (simp; done) | (simp; omega) | omega))) | with_reducible refine bl_drew ?_ | with_reducible refine bl_drewN ?_ | ((with_reducible refine bl_step (by assumption) ?_ ?_); (focus (first | (simp; done) | (simp; omega) | omega))))))

def RetHead (w : World) (num base time : Int) (l : List (Int × Int × Int)) (en : Ending) (w' : World) : Prop :=
  ∃ (ao : Option Addr) (cap : Nat), en = .returned (.agg #[.int .i64 num, .int .i64 base, .int .i64 time, .slice ao l.length cap]) ∧ OwnA markE w' w.heap.size 127 (.slice ao l.length cap) l ∧ Below w.heap.size w w'

theorem c_laws_toHead (num base time : Int) (ao : Option Addr) (cap : Nat) (l : List (Int × Int × Int)) (w : World) (hl : ReadA markE w ao l) (hs : l.length ≤ 1099511627776) :
    Calls Try.prog 27 #[.agg #[.int .i64 num, .int .i64 base, .int .i64 time, .slice ao l.length cap]] w (RetHead w num base time l) := by
  have Hl : Hid (∀ W, Below w.heap.size w W → ReadA markE W ao l) := fun W hb => hl.below hb
  clear hl
  go_enter Try.func27, Try.ntmps27
  go_wp2_with fail
  refine (c_laws_toMarkS _ _ _ _ (Hl.out _ (by (repeat (first | with_reducible exact Below.refl _ _ | ((with_reducible refine bl_alloc ?_ ?_); (focus (first | (simp; done) | (simp; omega) | omega))) | ((with_reducible refine bl_set ?_ ?_); (focus (first | (simp; done) | (simp; omega) | omega))) | ((with_reducible refine bl_later ?_ ?_); (focus (first | (simp; done) | (simp; omega) | omega))) | with_reducible refine bl_drew ?_ | with_reducible refine bl_drewN ?_ | ((with_reducible refine bl_step (by assumption) ?_ ?_); (focus (first | (simp; done) | (simp; omega) | omega))))))) hs).mono ?_
  rintro en w1 ⟨a1, c1, rfl, ho1, hb1⟩
  have hz1 := hb1.size
  simp at hz1
  have hc0 := fun (o : Nat) => hb1.cell (p := ⟨w.heap.size, o, none⟩) (by (first | (simp; done) | (simp; omega) | omega))
  have hc1 := fun (o : Nat) => hb1.cell (p := ⟨w.heap.size + 1, o, none⟩) (by (first | (simp; done) | (simp; omega) | omega))
  have hc2 := fun (o : Nat) => hb1.cell (p := ⟨w.heap.size + 1 + 1, o, none⟩) (by (first | (simp; done) | (simp; omega) | omega))
  have hf0 := fun (o : Nat) => hb1.frozen (p := ⟨w.heap.size, o, none⟩) (by (first | (simp; done) | (simp; omega) | omega))
  have hf1 := fun (o : Nat) => hb1.frozen (p := ⟨w.heap.size + 1, o, none⟩) (by (first | (simp; done) | (simp; omega) | omega))
  have hf2 := fun (o : Nat) => hb1.frozen (p := ⟨w.heap.size + 1 + 1, o, none⟩) (by (first | (simp; done) | (simp; omega) | omega))
  have Ho1 := Lib.hid ho1
  clear ho1
  go_wp2_with fail
  refine bodyPost_ret (v := .agg #[.int .i64 num, .int .i64 base, .int .i64 time, .slice a1 l.length c1]) (by simp [results, Try.results27, go_sem, *]) rfl ⟨a1, c1, rfl, ?_, ?_⟩
  · refine OwnA.weak (lo := w.heap.size + 1 + 1 + 1) (by omega) ?_
    repeat (first | ((with_reducible refine OwnA.set ?_ ?_); (focus (first | (simp; done) | (simp; omega) | omega))))
    have := Ho1.out
    simpa using this
  · (repeat (first | with_reducible exact Below.refl _ _ | ((with_reducible refine bl_alloc ?_ ?_); (focus (first | (simp; done) | (simp; omega) | omega))) | ((with_reducible refine bl_set ?_ ?_); (focus (first | (simp; done) | (simp; omega) | omega))) | ((with_reducible refine bl_later ?_ ?_); (focus (first | (simp; done) | (simp; omega) | omega))) | with_reducible refine bl_drew ?_ | with_reducible refine bl_drewN ?_ | ((with_reducible refine bl_step (by assumption) ?_ ?_); (focus (first | (simp; done) | (simp; omega) | omega)))))

theorem c_laws_eqHead_same (num base time : Int) (ao ao2 : Option Addr) (cap cap2 : Nat) (l : List (Int × Int × Int)) (w : World) (hl : ReadA markE w ao l) (hm : ReadA markE w ao2 l) :
    Calls Try.prog 22 #[.agg #[.int .i64 num, .int .i64 base, .int .i64 time, .slice ao l.length cap], .agg #[.int .i64 num, .int .i64 base, .int .i64 time, .slice ao2 l.length cap2]] w fun en w' => en = .returned (.bool true) ∧ Below w.heap.size w w' := by
  have Hl : Hid (∀ W, Below w.heap.size w W → ReadA markE W ao l) := fun W hb => hl.below hb
  have Hm : Hid (∀ W, Below w.heap.size w W → ReadA markE W ao2 l) := fun W hb => hm.below hb
  clear hl hm
  go_enter Try.func22, Try.ntmps22
  go_wp2_with (go_at_call 60; refine (c_laws_eqMarkS_same _ _ _ _ _ _ (Hl.out _ ?h1) (Hm.out _ ?h2)).mono ?_; rotate_right; rintro en w' ⟨rfl, hb⟩)
  all_goals (try ((repeat (first | with_reducible exact Below.refl _ _ | ((with_reducible refine bl_alloc ?_ ?_); (focus (first | (simp; done) | (simp; omega) | omega))) | ((with_reducible refine bl_set ?_ ?_); (focus (first | (simp; done) | (simp; omega) | omega))) | ((with_reducible refine bl_later ?_ ?_); (focus (first | (simp; done) | (simp; omega) | omega))) | with_reducible refine bl_drew ?_ | with_reducible refine bl_drewN ?_ | ((with_reducible refine bl_step (by assumption) ?_ ?_); (focus (first | (simp; done) | (simp; omega) | omega))))); done))
  all_goals go_ret
  all_goals (refine ⟨rfl, ?_⟩; (repeat (first | with_reducible exact Below.refl _ _ | ((with_reducible refine bl_alloc ?_ ?_); (focus (first | (simp; done) | (simp; omega) | omega))) | ((with_reducible refine bl_set ?_ ?_); (focus (first | (simp; done) | (simp; omega) | omega))) | ((with_reducible refine bl_later ?_ ?_); (focus (first | (simp; done) | (simp; omega) | omega))) | with_reducible refine bl_drew ?_ | with_reducible refine bl_drewN ?_ | ((with_reducible refine bl_step (by assumption) ?_ ?_); (focus (first | (simp; done) | (simp; omega) | omega))))))

theorem c_laws_markHead (num base time : Int) (ao : Option Addr) (cap lo : Nat) (l : List (Int × Int × Int)) (k : Int) (w : World) (h : OwnA markE w lo 127 (.slice ao l.length cap) l) (hk : 0 ≤ k) (hk2 : k ≤ 1099511627776) (hl : l.length ≤ 1099511627776) :
    Calls Try.prog 23 #[.agg #[.int .i64 num, .int .i64 base, .int .i64 time, .slice ao l.length cap], .int .i64 k] w fun e w' => e = .returned (.int .i64 (k + 3 * l.length)) ∧ OwnA markE w' lo 127 (.slice ao l.length cap) ((List.range l.length).map (markMk k)) ∧ w.grownBy w' (Value.ownBlock (.slice ao l.length cap)) := by
  go_enter Try.func23, Try.ntmps23
  go_wp2_with fail
  refine (c_laws_markMarkS _ _ lo _ _ _ (h.below ((Below.refl _ _).alloc (Nat.le_refl _) _)) hk hk2 hl).mono ?_
  rintro e w2 ⟨rfl, ho2, hg2, hz2⟩
  have Hz2 := Lib.hid hz2
  clear hz2
  go_wp2_with fail
  go_ret
  exact ⟨rfl, ho2, (World.grownBy_alloc w _ _).trans hg2⟩

theorem c_laws_heldHead (num base time : Int) (ao : Option Addr) (cap n : Nat) (k : Int) (w : World) (h : ReadA markE w ao ((List.range n).map (markMk k))) (hk : 0 ≤ k) (hk2 : k ≤ 1099511627776) (hl : n ≤ 1099511627776) :
    Calls Try.prog 24 #[.agg #[.int .i64 num, .int .i64 base, .int .i64 time, .slice ao n cap], .int .i64 k] w fun e w' => e = .returned (.int .i64 (k + 3 * n)) ∧ Below w.heap.size w w' := by
  have hd : decide (k + 3 * (n : Int) < 0) = false := by simp; omega
  go_enter Try.func24, Try.ntmps24
  go_wp2_with fail
  refine (c_laws_heldMarkS _ _ _ _ _ (h.below ((Below.refl _ _).alloc (Nat.le_refl _) _)) hk hk2 hl).mono ?_
  rintro e w2 ⟨rfl, rfl⟩
  go_wp2_with fail
  go_ret
  exact ⟨rfl, by (repeat (first | with_reducible exact Below.refl _ _ | ((with_reducible refine bl_alloc ?_ ?_); (focus (first | (simp; done) | (simp; omega) | omega))) | ((with_reducible refine bl_set ?_ ?_); (focus (first | (simp; done) | (simp; omega) | omega))) | ((with_reducible refine bl_later ?_ ?_); (focus (first | (simp; done) | (simp; omega) | omega))) | with_reducible refine bl_drew ?_ | with_reducible refine bl_drewN ?_ | ((with_reducible refine bl_step (by assumption) ?_ ?_); (focus (first | (simp; done) | (simp; omega) | omega)))))⟩

end Go.Proofs.Ytmjafclpeknpcaa
/- What the laws do to a head of its own. -/
namespace Go.Proofs.Ytmjafclpeknpcaa
open Go.ChangeShapes Go.WideShapes Go.ChangeAt Go.RowKit Go.Deep
abbrev marksO : En (List (Int × Int × Int)) := ownE markE 127
section
variable {w : World} {lo hi lo2 hi2 : Nat} {l : List (Int × Int × Int)} {a1 b1 : Option Addr} {c1 k1 : Nat} {num base time : Int}
theorem Sp.marks (h : Sp marksO w lo hi l [.slice a1 l.length c1]) : OwnA markE w lo 127 (.slice a1 l.length c1) l ∧ ∀ k, (Value.slice a1 l.length c1).ownBlock = some k → lo ≤ k ∧ k < hi := by
  obtain ⟨F, ⟨ao, cap, hv, ho, rfl⟩, h2, h3, h4⟩ := h
  simp only [List.cons.injEq, Value.slice.injEq, and_true, true_and] at hv
  obtain ⟨rfl, rfl⟩ := hv
  have hb : ∀ k, (Value.slice a1 l.length c1).ownBlock = some k → lo ≤ k ∧ k < hi := fun k hk => h3 k (by rw [hk]; simp)
  refine ⟨⟨ho.1, ho.2.1, ho.2.2.1, ?_⟩, hb⟩
  rcases ho.2.2.2 with h5 | ⟨g, cap', cur, h5, _, h6⟩
  · exact .inl h5
  · exact .inr ⟨g, cap', cur, h5, (hb g (by rw [h5]; rfl)).1, h6⟩
theorem Sp.marksR (h : Sp marksO w lo hi l [.slice a1 l.length c1]) : ReadA markE w a1 l := h.marks.1.read
theorem c_toHead_o (num base time : Int) (ao : Option Addr) (cap : Nat) (l : List (Int × Int × Int)) (w : World) (hl : ReadA markE w ao l) (hs : l.length ≤ 1099511627776) :
    Calls Try.prog 27 #[.agg #[.int .i64 num, .int .i64 base, .int .i64 time, .slice ao l.length cap]] w fun e w' => ∃ a1 c1, e = .returned (.agg #[.int .i64 num, .int .i64 base, .int .i64 time, .slice a1 l.length c1]) ∧ Sp marksO w' w.heap.size w'.heap.size l [.slice a1 l.length c1] ∧ Below w.heap.size w w' := by
  refine (c_laws_toHead num base time ao cap l w hl hs).mono ?_
  rintro e w' ⟨a1, c1, rfl, ho, hb⟩
  exact ⟨a1, c1, rfl, sp_rows ho, hb⟩
theorem c_eqHead_o (h : Sp marksO w lo hi l [.slice a1 l.length c1]) (h2 : Sp marksO w lo2 hi2 l [.slice b1 l.length k1]) :
    Calls Try.prog 22 #[.agg #[.int .i64 num, .int .i64 base, .int .i64 time, .slice a1 l.length c1], .agg #[.int .i64 num, .int .i64 base, .int .i64 time, .slice b1 l.length k1]] w fun en w' => en = .returned (.bool true) ∧ Below w.heap.size w w' :=
  c_laws_eqHead_same num base time a1 b1 c1 k1 l w h.marksR h2.marksR
theorem c_markHead_o (h : Sp marksO w lo hi l [.slice a1 l.length c1]) {k : Int} (hk : 0 ≤ k) (hk2 : k + (3 * l.length : Nat) ≤ 1099511627776) :
    Calls Try.prog 23 #[.agg #[.int .i64 num, .int .i64 base, .int .i64 time, .slice a1 l.length c1], .int .i64 k] w fun en w' => en = .returned (.int .i64 (k + (3 * l.length : Nat))) ∧ Sp marksO w' lo hi ((List.range l.length).map (markMk k)) [.slice a1 l.length c1] ∧ Out lo hi w w' := by
  obtain ⟨ho, hb⟩ := h.marks
  refine (c_laws_markHead num base time a1 c1 lo l k w ho hk (by omega) (by omega)).mono ?_
  rintro en w' ⟨rfl, h1, h2⟩
  refine ⟨by rw [Int.natCast_mul]; rfl, ⟨(Value.slice a1 l.length c1).ownBlock.toList, ⟨a1, c1, by simp, ⟨h1.1, h1.2.1, ?_⟩, by simp [Value.ownBlock]⟩, nodup_opt _, fun b hb2 => hb b (Option.mem_toList.1 hb2), owns_free h1.2.2⟩, (ChgF.of_grown h2).out fun b hb2 => hb b (Option.mem_toList.1 hb2)⟩
  have := owns_zero h1.2.2
  simpa using this
theorem c_heldHead_o {k : Int} (h : Sp marksO w lo hi ((List.range l.length).map (markMk k)) [.slice a1 l.length c1]) (hk : 0 ≤ k) (hk2 : k + (3 * l.length : Nat) ≤ 1099511627776) :
    Calls Try.prog 24 #[.agg #[.int .i64 num, .int .i64 base, .int .i64 time, .slice a1 l.length c1], .int .i64 k] w fun en w' => en = .returned (.int .i64 (k + (3 * l.length : Nat))) ∧ Below w.heap.size w w' := by
  have e : l.length = ((List.range l.length).map (markMk k)).length := by simp
  have h' := h
  rw [show ([.slice a1 l.length c1] : List Value) = [.slice a1 ((List.range l.length).map (markMk k)).length c1] by rw [← e]] at h'
  refine (c_laws_heldHead num base time a1 c1 l.length k w h'.marksR hk (by omega) (by omega)).mono ?_
  rintro en w' ⟨rfl, hb⟩
  exact ⟨by rw [Int.natCast_mul]; rfl, hb⟩
end
end Go.Proofs.Ytmjafclpeknpcaa
