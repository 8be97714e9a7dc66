/- Texts of the proof, merged: part 5. -/
import Derived.Test.YtpfkfppooeikeaaOkD
import Derived.Test.YtpfkfppooeikeaaJobsE
import Derived.WalkKit
import Derived.WalkSpells
import Derived.Deep.QuietTactic
import Derived.BigQuiet
import Derived.Deep.Light
import Derived.Lib.Hide
import Derived.Deep.RegionHeld3
import Derived.Test.YtpfkfppooeikeaaRollOp
import Derived.Test.YtpfkfppooeikeaaOne
import Derived.Test.YtpfkfppooeikeaaRollJobs
import Derived.Test.YtpfkfppooeikeaaFeedE
import Derived.Test.YtpfkfppooeikeaaRows2
import Derived.Test.YtpfkfppooeikeaaLeaf
import Derived.Test.YtpfkfppooeikeaaBx
import Derived.Test.YtpfkfppooeikeaaKindOf
import Derived.Test.YtpfkfppooeikeaaRoll
import Derived.Test.YtpfkfppooeikeaaDice
import Derived.Test.YtpfkfppooeikeaaRows
import Derived.JoinedOf
import Derived.ProofKit
/- Walks of functions of the program, printed by a program of the prover. -/
namespace Go.Proofs.Ytpfkfppooeikeaa
open Go.ChangeShapes Go.WideShapes Go.ChangeAt Go.RowKit Go.Deep
set_option maxHeartbeats 1600000
set_option maxRecDepth 100000

theorem kindOf_row {l : List Int} {k : Int} (h1 : 1 ≤ k) (h9 : k ≤ 9) (hr : rowOk l = true) (hh : l.headD 0 = k) : kindOf l = k := by
  have hB : inB k 1 9 = true := by simp [inB]; omega
  unfold kindOf
  rw [hr, hh, hB]
  rfl
theorem rowOk_kind {l : List Int} {k : Int} (h : kindOf l = k) (h1 : 1 ≤ k) : rowOk l = true ∧ 0 < l.length := by
  unfold kindOf at h
  split at h
  · rename_i h2
    simp only [Bool.and_eq_true] at h2
    refine ⟨h2.1, ?_⟩
    cases l with
    | nil => simp at h; omega
    | cons a r => simp
  · omega
theorem chunk_of_flat : ∀ D : List (Int × Int × Int × Int × Int × Int × Int × Int × Int), chunk9 (D.flatMap entryNums) = D
  | [] => rfl
  | d :: D => by
    have h := chunk_of_flat D
    obtain ⟨i, t, c, s, k, a, b, x, y⟩ := d
    simp only [List.flatMap_cons, entryNums, List.cons_append, List.nil_append, chunk9]
    rw [h]
theorem dues_of_flat : ∀ D : List (Int × Int), duesOf (D.flatMap dueNums) = D
  | [] => rfl
  | d :: D => by
    have h := dues_of_flat D
    obtain ⟨a, b⟩ := d
    simp only [List.flatMap_cons, dueNums, List.cons_append, List.nil_append, duesOf]
    rw [h]
def KindsAre (k : Int) (l : List Int) : Prop := kindOf l = k ∧ isAsk l = decide (k = 1) ∧ isAck l = decide (k = 2) ∧ oneIs l 3 1 2001 = decide (k = 3) ∧ isFeed l = decide (k = 4) ∧ oneIs l 5 1 2000 = decide (k = 5) ∧ isRead l = decide (k = 6) ∧ isValue l = decide (k = 7) ∧ oneIs l 8 2 3 = decide (k = 8) ∧ isJobs l = decide (k = 9)
theorem kinds_1 {l : List Int} (hk : kindOf l = 1) (ho : isAsk l = true) : KindsAre 1 l := ⟨hk, ho.trans rfl, (isAck_ne (by rw [hk]; rfl)).trans rfl, (oneIs_ne (by rw [hk]; rfl) (by decide) (by decide) (by decide) (by decide)).trans rfl, (isFeed_ne (by rw [hk]; rfl)).trans rfl, (oneIs_ne (by rw [hk]; rfl) (by decide) (by decide) (by decide) (by decide)).trans rfl, (isRead_ne (by rw [hk]; rfl)).trans rfl, (isValue_ne (by rw [hk]; rfl)).trans rfl, (oneIs_ne (by rw [hk]; rfl) (by decide) (by decide) (by decide) (by decide)).trans rfl, (isJobs_ne (by rw [hk]; rfl)).trans rfl⟩
theorem kinds_2 {l : List Int} (hk : kindOf l = 2) (ho : isAck l = true) : KindsAre 2 l := ⟨hk, (isAsk_ne (by rw [hk]; rfl)).trans rfl, ho.trans rfl, (oneIs_ne (by rw [hk]; rfl) (by decide) (by decide) (by decide) (by decide)).trans rfl, (isFeed_ne (by rw [hk]; rfl)).trans rfl, (oneIs_ne (by rw [hk]; rfl) (by decide) (by decide) (by decide) (by decide)).trans rfl, (isRead_ne (by rw [hk]; rfl)).trans rfl, (isValue_ne (by rw [hk]; rfl)).trans rfl, (oneIs_ne (by rw [hk]; rfl) (by decide) (by decide) (by decide) (by decide)).trans rfl, (isJobs_ne (by rw [hk]; rfl)).trans rfl⟩
theorem kinds_3 {l : List Int} (hk : kindOf l = 3) (ho : oneIs l 3 1 2001 = true) : KindsAre 3 l := ⟨hk, (isAsk_ne (by rw [hk]; rfl)).trans rfl, (isAck_ne (by rw [hk]; rfl)).trans rfl, ho.trans rfl, (isFeed_ne (by rw [hk]; rfl)).trans rfl, (oneIs_ne (by rw [hk]; rfl) (by decide) (by decide) (by decide) (by decide)).trans rfl, (isRead_ne (by rw [hk]; rfl)).trans rfl, (isValue_ne (by rw [hk]; rfl)).trans rfl, (oneIs_ne (by rw [hk]; rfl) (by decide) (by decide) (by decide) (by decide)).trans rfl, (isJobs_ne (by rw [hk]; rfl)).trans rfl⟩
theorem kinds_4 {l : List Int} (hk : kindOf l = 4) (ho : isFeed l = true) : KindsAre 4 l := ⟨hk, (isAsk_ne (by rw [hk]; rfl)).trans rfl, (isAck_ne (by rw [hk]; rfl)).trans rfl, (oneIs_ne (by rw [hk]; rfl) (by decide) (by decide) (by decide) (by decide)).trans rfl, ho.trans rfl, (oneIs_ne (by rw [hk]; rfl) (by decide) (by decide) (by decide) (by decide)).trans rfl, (isRead_ne (by rw [hk]; rfl)).trans rfl, (isValue_ne (by rw [hk]; rfl)).trans rfl, (oneIs_ne (by rw [hk]; rfl) (by decide) (by decide) (by decide) (by decide)).trans rfl, (isJobs_ne (by rw [hk]; rfl)).trans rfl⟩
theorem kinds_5 {l : List Int} (hk : kindOf l = 5) (ho : oneIs l 5 1 2000 = true) : KindsAre 5 l := ⟨hk, (isAsk_ne (by rw [hk]; rfl)).trans rfl, (isAck_ne (by rw [hk]; rfl)).trans rfl, (oneIs_ne (by rw [hk]; rfl) (by decide) (by decide) (by decide) (by decide)).trans rfl, (isFeed_ne (by rw [hk]; rfl)).trans rfl, ho.trans rfl, (isRead_ne (by rw [hk]; rfl)).trans rfl, (isValue_ne (by rw [hk]; rfl)).trans rfl, (oneIs_ne (by rw [hk]; rfl) (by decide) (by decide) (by decide) (by decide)).trans rfl, (isJobs_ne (by rw [hk]; rfl)).trans rfl⟩
theorem kinds_6 {l : List Int} (hk : kindOf l = 6) (ho : isRead l = true) : KindsAre 6 l := ⟨hk, (isAsk_ne (by rw [hk]; rfl)).trans rfl, (isAck_ne (by rw [hk]; rfl)).trans rfl, (oneIs_ne (by rw [hk]; rfl) (by decide) (by decide) (by decide) (by decide)).trans rfl, (isFeed_ne (by rw [hk]; rfl)).trans rfl, (oneIs_ne (by rw [hk]; rfl) (by decide) (by decide) (by decide) (by decide)).trans rfl, ho.trans rfl, (isValue_ne (by rw [hk]; rfl)).trans rfl, (oneIs_ne (by rw [hk]; rfl) (by decide) (by decide) (by decide) (by decide)).trans rfl, (isJobs_ne (by rw [hk]; rfl)).trans rfl⟩
theorem kinds_7 {l : List Int} (hk : kindOf l = 7) (ho : isValue l = true) : KindsAre 7 l := ⟨hk, (isAsk_ne (by rw [hk]; rfl)).trans rfl, (isAck_ne (by rw [hk]; rfl)).trans rfl, (oneIs_ne (by rw [hk]; rfl) (by decide) (by decide) (by decide) (by decide)).trans rfl, (isFeed_ne (by rw [hk]; rfl)).trans rfl, (oneIs_ne (by rw [hk]; rfl) (by decide) (by decide) (by decide) (by decide)).trans rfl, (isRead_ne (by rw [hk]; rfl)).trans rfl, ho.trans rfl, (oneIs_ne (by rw [hk]; rfl) (by decide) (by decide) (by decide) (by decide)).trans rfl, (isJobs_ne (by rw [hk]; rfl)).trans rfl⟩
theorem kinds_8 {l : List Int} (hk : kindOf l = 8) (ho : oneIs l 8 2 3 = true) : KindsAre 8 l := ⟨hk, (isAsk_ne (by rw [hk]; rfl)).trans rfl, (isAck_ne (by rw [hk]; rfl)).trans rfl, (oneIs_ne (by rw [hk]; rfl) (by decide) (by decide) (by decide) (by decide)).trans rfl, (isFeed_ne (by rw [hk]; rfl)).trans rfl, (oneIs_ne (by rw [hk]; rfl) (by decide) (by decide) (by decide) (by decide)).trans rfl, (isRead_ne (by rw [hk]; rfl)).trans rfl, (isValue_ne (by rw [hk]; rfl)).trans rfl, ho.trans rfl, (isJobs_ne (by rw [hk]; rfl)).trans rfl⟩
theorem kinds_9 {l : List Int} (hk : kindOf l = 9) (ho : isJobs l = true) : KindsAre 9 l := ⟨hk, (isAsk_ne (by rw [hk]; rfl)).trans rfl, (isAck_ne (by rw [hk]; rfl)).trans rfl, (oneIs_ne (by rw [hk]; rfl) (by decide) (by decide) (by decide) (by decide)).trans rfl, (isFeed_ne (by rw [hk]; rfl)).trans rfl, (oneIs_ne (by rw [hk]; rfl) (by decide) (by decide) (by decide) (by decide)).trans rfl, (isRead_ne (by rw [hk]; rfl)).trans rfl, (isValue_ne (by rw [hk]; rfl)).trans rfl, (oneIs_ne (by rw [hk]; rfl) (by decide) (by decide) (by decide) (by decide)).trans rfl, ho.trans rfl⟩
theorem row_ask {c s k a b x y : Int} (h : askOk c s k a b x y = true) : KindsAre 1 (rowAsk c s k a b x y) ∧ partsAsk (rowAsk c s k a b x y) = [c, s, k, a, b, x, y] := by
  have hi : isAsk [1, c, s, k, a, b, x, y] = true := by simp [isAsk, isB, h]
  have hk : kindOf [1, c, s, k, a, b, x, y] = 1 := by
    refine kindOf_row (by decide) (by decide) ?_ rfl
    simp only [askOk, inB, Bool.and_eq_true, decide_eq_true_eq] at h
    have h7 := opOk_nums h.2.2
    simp [rowOk, numOk]
    omega
  rw [rowAsk_t h]
  exact ⟨kinds_1 hk hi, by unfold partsAsk; rw [hi]; rfl⟩
theorem row_ack {c s i u : Int} (h : ackOk c s i u = true) : KindsAre 2 (rowAck c s i u) ∧ partsAck (rowAck c s i u) = [c, s, i, u] := by
  have hi : isAck [2, c, s, i, u] = true := by simp [isAck, isB, h]
  have hk : kindOf [2, c, s, i, u] = 2 := by
    refine kindOf_row (by decide) (by decide) ?_ rfl
    simp only [ackOk, inB, Bool.and_eq_true, decide_eq_true_eq] at h
    have h8 : 0 ≤ i ∧ i ≤ 2000 := by
      have h9 := h.2.2.2
      split at h9
      · simp at h9; omega
      · simp at h9; omega
    simp [rowOk, numOk]
    omega
  rw [rowAck_t h]
  exact ⟨kinds_2 hk hi, by unfold partsAck; rw [hi]; rfl⟩
theorem row_read {a b c d : Int} (h : (inB a 2 5 && inB b 1 2000 && inB c 0 9 && inB d 0 2000) = true) : KindsAre 6 (rowRead a b c d) ∧ partsRead (rowRead a b c d) = [a, b, c, d] := by
  have hi : isRead [6, a, b, c, d] = true := by simpa [isRead, isB, and_assoc] using h
  have hk : kindOf [6, a, b, c, d] = 6 := by
    refine kindOf_row (by decide) (by decide) ?_ rfl
    simp only [inB, Bool.and_eq_true, decide_eq_true_eq] at h
    simp [rowOk, numOk]
    omega
  rw [rowRead_t h]
  exact ⟨kinds_6 hk hi, by unfold partsRead; rw [hi]; rfl⟩
theorem row_value {c s i h9 v : Int} (h : valueOk c s i h9 v = true) : KindsAre 7 (rowValue c s i h9 v) ∧ partsValue (rowValue c s i h9 v) = [c, s, i, h9, v] := by
  have hi : isValue [7, c, s, i, h9, v] = true := by simp [isValue, isB, h]
  have hk : kindOf [7, c, s, i, h9, v] = 7 := by
    refine kindOf_row (by decide) (by decide) ?_ rfl
    simp only [valueOk, foundB, inB, Bool.and_eq_true, decide_eq_true_eq] at h
    simp [rowOk, numOk]
    omega
  rw [rowValue_t h]
  exact ⟨kinds_7 hk hi, by unfold partsValue; rw [hi]; rfl⟩
theorem row_one3 {x : Int} (h : inB x 1 2001 = true) : KindsAre 3 (oneRow 3 x 1 2001) := by
  have hi : oneIs [3, x] 3 1 2001 = true := by simp [oneIs, isB, h]
  have hk : kindOf [3, x] = 3 := by
    refine kindOf_row (by decide) (by decide) ?_ rfl
    simp only [inB, Bool.and_eq_true, decide_eq_true_eq] at h
    simp [rowOk, numOk]
    omega
  rw [oneRow_t h]
  exact kinds_3 hk hi
theorem row_one5 {x : Int} (h : inB x 1 2000 = true) : KindsAre 5 (oneRow 5 x 1 2000) := by
  have hi : oneIs [5, x] 5 1 2000 = true := by simp [oneIs, isB, h]
  have hk : kindOf [5, x] = 5 := by
    refine kindOf_row (by decide) (by decide) ?_ rfl
    simp only [inB, Bool.and_eq_true, decide_eq_true_eq] at h
    simp [rowOk, numOk]
    omega
  rw [oneRow_t h]
  exact kinds_5 hk hi
theorem row_one8 {x : Int} (h : inB x 2 3 = true) : KindsAre 8 (oneRow 8 x 2 3) := by
  have hi : oneIs [8, x] 8 2 3 = true := by simp [oneIs, isB, h]
  have hk : kindOf [8, x] = 8 := by
    refine kindOf_row (by decide) (by decide) ?_ rfl
    simp only [inB, Bool.and_eq_true, decide_eq_true_eq] at h
    simp [rowOk, numOk]
    omega
  rw [oneRow_t h]
  exact kinds_8 hk hi
theorem row_feed {bs la : Int} {D : List (Int × Int × Int × Int × Int × Int × Int × Int × Int)} (h : feedOk bs la D = true) : KindsAre 4 (rowFeed bs la D) ∧ feedHead (rowFeed bs la D) = (bs, la) ∧ feedOpen (rowFeed bs la D) = D := by
  have hl := (feedOk_ents h).2
  have hf : (D.flatMap entryNums).length = D.length * 9 := by rw [length_flat (c := 9) (fun _ => rfl)]
  have hi : isFeed (4 :: bs :: la :: D.flatMap entryNums) = true := by
    simp only [isFeed, chunk_of_flat, h, Bool.and_eq_true, decide_eq_true_eq, hf]
    refine ⟨by omega, by omega, by decide, trivial⟩
  rw [rowFeed_t h]
  refine ⟨kinds_4 (isFeed_kind hi) hi, ?_, ?_⟩
  · show feedHead (4 :: bs :: la :: D.flatMap entryNums) = _
    unfold feedHead
    rw [hi]
    rfl
  · show feedOpen (4 :: bs :: la :: D.flatMap entryNums) = _
    unfold feedOpen
    rw [hi]
    exact chunk_of_flat D
theorem row_jobs {i t h e u : Int} {D : List (Int × Int)} (hj : jobsOk i t h e u D = true) : KindsAre 9 (rowJobs i t h e u D) ∧ jobsHead (rowJobs i t h e u D) = (i, t, h, e, u) ∧ jobsOpen (rowJobs i t h e u D) = D := by
  have hl : D.length ≤ 8 := by
    simp only [jobsOk, openOk, Bool.and_eq_true, decide_eq_true_eq] at hj
    exact hj.2.2.2.2.2.1
  have hf : (D.flatMap dueNums).length = D.length * 2 := by rw [length_flat (c := 2) (fun _ => rfl)]
  have hi : isJobs (9 :: i :: t :: h :: e :: u :: D.flatMap dueNums) = true := by
    simp only [isJobs, dues_of_flat, hj, Bool.and_eq_true, decide_eq_true_eq, hf]
    refine ⟨by omega, by omega, by decide, trivial⟩
  rw [rowJobs_t hj]
  refine ⟨kinds_9 (isJobs_kind hi) hi, ?_, ?_⟩
  · show jobsHead (9 :: i :: t :: h :: e :: u :: D.flatMap dueNums) = _
    unfold jobsHead
    rw [hi]
    rfl
  · show jobsOpen (9 :: i :: t :: h :: e :: u :: D.flatMap dueNums) = _
    unfold jobsOpen
    rw [hi]
    exact dues_of_flat D

end Go.Proofs.Ytpfkfppooeikeaa
/- Walks of functions of the program, printed by a program of the prover. -/
namespace Go.Proofs.Ytpfkfppooeikeaa
open Go.ChangeShapes Go.WideShapes Go.ChangeAt Go.RowKit Go.Deep
set_option maxHeartbeats 1600000
set_option maxRecDepth 100000

def RetAsk (w : World) (g : Nat) (e : Ending) (w' : World) : Prop :=
  ∃ c s k a b x y : Int, e = .returned (.agg #[.int .i64 c, .int .i64 s, .int .i64 k, .int .i64 a, .int .i64 b, .int .i64 x, .int .i64 y]) ∧ askOk c s k a b x y = true ∧ Dice w' g ∧ w.grownBy w' (some g)
theorem c_w9Ask (g : Nat) (w : World) (hD : Dice w g) : Calls Try.prog 84 #[.pointer (some ⟨g, 0, none⟩)] w (RetAsk w g) := by
  have hlt := hD.lt
  have hBx := Bx.new w [.int .i64 0, .int .i64 0, .int .i64 0, .int .i64 0, .int .i64 0, .int .i64 0, .int .i64 0] 86
  have hFx := Fx.new w [.int .i64 0, .int .i64 0, .int .i64 0, .int .i64 0, .int .i64 0, .int .i64 0, .int .i64 0] 86
  have hG := World.grownBy_alloc w (.cells ([.int .i64 0, .int .i64 0, .int .i64 0, .int .i64 0, .int .i64 0, .int .i64 0, .int .i64 0] : List Value).toArray 86) (some g)
  replace hD := hD.alloc (.cells ([.int .i64 0, .int .i64 0, .int .i64 0, .int .i64 0, .int .i64 0, .int .i64 0, .int .i64 0] : List Value).toArray 86)
  go_enter Try.func84, Try.ntmps84
  go_wp2_with fail
  refine (c_below g _ _ hD (by omega) (by omega)).mono ?_
  rintro e wc ⟨c, rfl, c0, c1, hDq, hgq⟩
  replace hD := hDq
  replace hBx := hBx.grown hgq (fun e => by have h7 := Option.some.inj e; omega)
  replace hFx := hFx.grown hgq (fun e => by have h7 := Option.some.inj e; omega)
  replace hG := hG.trans hgq
  clear hDq hgq
  go_wp2_with fail
  refine (c_below g _ _ hD (by omega) (by omega)).mono ?_
  rintro e ws ⟨s, rfl, s0, s1, hDq, hgq⟩
  replace hD := hDq
  replace hBx := hBx.grown hgq (fun e => by have h7 := Option.some.inj e; omega)
  replace hFx := hFx.grown hgq (fun e => by have h7 := Option.some.inj e; omega)
  replace hG := hG.trans hgq
  clear hDq hgq
  go_wp2_with fail
  refine (c_w9Op g _ hD).mono ?_
  rintro e wo ⟨k, a, b, x, y, rfl, hO, hDq, hgq⟩
  replace hD := hDq
  replace hBx := hBx.grown hgq (fun e => by have h7 := Option.some.inj e; omega)
  replace hFx := hFx.grown hgq (fun e => by have h7 := Option.some.inj e; omega)
  replace hG := hG.trans hgq
  clear hDq hgq
  have q0 := hBx.2
  have q1 := hFx.2
  go_wp2_with fail
  refine bodyPost_ret (v := .agg #[.int .i64 (2 + c), .int .i64 (1 + s), .int .i64 k, .int .i64 a, .int .i64 b, .int .i64 x, .int .i64 y]) (by simp [results, Try.results84, go_sem, *]) rfl ⟨2 + c, 1 + s, k, a, b, x, y, rfl, ?_, ?_, ?_⟩
  · simp [askOk, inB, hO]; omega
  · repeat (first | with_reducible exact hD | (with_reducible refine Dice.set ?_ _ _ ?_; rotate_left; focus (simp; omega)))
  · repeat (first | with_reducible exact hG | (with_reducible refine grown_setNew ?_ _ _ ?_; rotate_left; focus (simp)))

end Go.Proofs.Ytpfkfppooeikeaa
/- Walks of functions of the program, printed by a program of the prover. -/
namespace Go.Proofs.Ytpfkfppooeikeaa
open Go.RowKit
set_option maxHeartbeats 400000
set_option maxRecDepth 100000
theorem c_spec_FetchRow (x : Int) (w : World) (hx : inI64 x) : Calls Try.prog 25 #[.int .i64 x] w (RetI w 2 (oneRow 3 x 1 2001)) := by
  go_enter Try.func25, Try.ntmps25
  go_wp2_with fail
  refine (c_spec_l11One _ _ _ _ _ (by simp [inI64]) hx).mono ?_
  rintro e w1 ⟨a1, c1, rfl, ho1, hb1⟩
  go_wp2_with fail
  go_ret
  exact ⟨a1, c1, rfl, ho1, hb1⟩
theorem c_impl_FetchRow (x : Int) (w : World) (hx : inI64 x) : Calls Try.prog 26 #[.int .i64 x] w (RetI w 2 (oneRow 3 x 1 2001)) := by
  go_enter Try.func26, Try.ntmps26
  go_wp2_with fail
  refine (c_encoded_fetch _ _ hx).mono ?_
  rintro e w1 ⟨a1, c1, rfl, ho1, hb1⟩
  go_wp2_with fail
  go_ret
  exact ⟨a1, c1, rfl, ho1, hb1⟩
theorem c_law_FetchRow (x : Int) (w : World) (hx : inI64 x) : Calls Try.prog 3 #[.int .i64 x] w fun e w' => e = .returned (.bool true) ∧ Below w.heap.size w w' := by
  have hL : (oneRow 3 x 1 2001).length ≤ 1000 := by unfold oneRow; split <;> simp
  go_enter Try.func3, Try.ntmps3
  go_wp2_with fail
  refine (c_spec_FetchRow x w hx).mono ?_
  rintro e w1 ⟨a1, c1, rfl, ho1, hb1⟩
  go_wp2_with fail
  refine (c_impl_FetchRow x w1 hx).mono ?_
  rintro e w2 ⟨a2, c2, rfl, ho2, hb2⟩
  go_wp2_with fail
  refine (c_eqInt64S _ _ _ _ _ _ _ ho2.read (ho1.read.below hb2)).mono ?_
  rintro e w3 ⟨rfl, hb3⟩
  have hlt1 := ho1.2.2.lt
  have hlt2 := ho2.2.2.lt
  have ho1' : IntsO w3 w.heap.size 2 (.slice a1 (oneRow 3 x 1 2001).length c1) (oneRow 3 x 1 2001) := (ho1.below hb2).below hb3
  have ho2' : IntsO w3 w1.heap.size 2 (.slice a2 (oneRow 3 x 1 2001).length c2) (oneRow 3 x 1 2001) := ho2.below hb3
  have hB3 : Below w.heap.size w w3 := bl_step hb3 (Nat.le_trans hb1.size hb2.size) (bl_step hb2 hb1.size hb1)
  have hs1 := hb1.size
  have hs2 := hb2.size
  have hs3 := hb3.size
  clear ho1 ho2 hb1 hb2 hb3
  go_wp2_with fail
  refine (c_laws_markInt64S _ _ _ _ _ _ ho2' (by omega) (by omega) (by omega)).mono ?_
  rintro e w4 ⟨rfl, ho4, hg4, hz4⟩
  have ho1'' := ho1'.kept (B := w1.heap.size) (fun k hk => (hlt1 k hk).2) (fun k hk => (hlt2 k hk).1) hg4
  have hB4 : Below w.heap.size w w4 := hB3.grown hg4 (by omega) (fun k hk => Nat.le_trans hs1 (hlt2 k hk).1)
  clear ho1' ho2' hB3 hg4
  have Hz4 := Lib.hid hz4
  clear hz4
  go_wp2_with fail
  refine (c_laws_heldInt64S _ _ _ _ _ (read_seqI ho4) (by omega) (by omega) (by omega)).mono ?_
  rintro e w4 ⟨rfl, rfl⟩
  go_wp2_with fail
  refine (c_impl_FetchRow x w4 hx).mono ?_
  rintro e w5 ⟨a5, c5, rfl, ho5, hb5⟩
  go_wp2_with fail
  refine (c_eqInt64S _ _ _ _ _ _ _ ho5.read (ho1''.read.below hb5)).mono ?_
  rintro e w6 ⟨rfl, hb6⟩
  go_wp2_with fail
  refine (c_laws_heldInt64S _ _ _ _ _ (((read_seqI ho4).below hb5).below hb6) (by omega) (by omega) (by omega)).mono ?_
  rintro e w6 ⟨rfl, rfl⟩
  go_wp2_with fail
  go_ret
  exact ⟨rfl, bl_step hb6 (Nat.le_trans hB4.size hb5.size) (bl_step hb5 hB4.size hB4)⟩

end Go.Proofs.Ytpfkfppooeikeaa
/- Walks of functions of the program, printed by a program of the prover. -/
namespace Go.Proofs.Ytpfkfppooeikeaa
open Go.RowKit
set_option maxHeartbeats 400000
set_option maxRecDepth 100000
theorem c_spec_TrimRow (x : Int) (w : World) (hx : inI64 x) : Calls Try.prog 30 #[.int .i64 x] w (RetI w 2 (oneRow 5 x 1 2000)) := by
  go_enter Try.func30, Try.ntmps30
  go_wp2_with fail
  refine (c_spec_l11One _ _ _ _ _ (by simp [inI64]) hx).mono ?_
  rintro e w1 ⟨a1, c1, rfl, ho1, hb1⟩
  go_wp2_with fail
  go_ret
  exact ⟨a1, c1, rfl, ho1, hb1⟩
theorem c_impl_TrimRow (x : Int) (w : World) (hx : inI64 x) : Calls Try.prog 31 #[.int .i64 x] w (RetI w 2 (oneRow 5 x 1 2000)) := by
  go_enter Try.func31, Try.ntmps31
  go_wp2_with fail
  refine (c_encoded_trim _ _ hx).mono ?_
  rintro e w1 ⟨a1, c1, rfl, ho1, hb1⟩
  go_wp2_with fail
  go_ret
  exact ⟨a1, c1, rfl, ho1, hb1⟩
theorem c_law_TrimRow (x : Int) (w : World) (hx : inI64 x) : Calls Try.prog 4 #[.int .i64 x] w fun e w' => e = .returned (.bool true) ∧ Below w.heap.size w w' := by
  have hL : (oneRow 5 x 1 2000).length ≤ 1000 := by unfold oneRow; split <;> simp
  go_enter Try.func4, Try.ntmps4
  go_wp2_with fail
  refine (c_spec_TrimRow x w hx).mono ?_
  rintro e w1 ⟨a1, c1, rfl, ho1, hb1⟩
  go_wp2_with fail
  refine (c_impl_TrimRow x w1 hx).mono ?_
  rintro e w2 ⟨a2, c2, rfl, ho2, hb2⟩
  go_wp2_with fail
  refine (c_eqInt64S _ _ _ _ _ _ _ ho2.read (ho1.read.below hb2)).mono ?_
  rintro e w3 ⟨rfl, hb3⟩
  have hlt1 := ho1.2.2.lt
  have hlt2 := ho2.2.2.lt
  have ho1' : IntsO w3 w.heap.size 2 (.slice a1 (oneRow 5 x 1 2000).length c1) (oneRow 5 x 1 2000) := (ho1.below hb2).below hb3
  have ho2' : IntsO w3 w1.heap.size 2 (.slice a2 (oneRow 5 x 1 2000).length c2) (oneRow 5 x 1 2000) := ho2.below hb3
  have hB3 : Below w.heap.size w w3 := bl_step hb3 (Nat.le_trans hb1.size hb2.size) (bl_step hb2 hb1.size hb1)
  have hs1 := hb1.size
  have hs2 := hb2.size
  have hs3 := hb3.size
  clear ho1 ho2 hb1 hb2 hb3
  go_wp2_with fail
  refine (c_laws_markInt64S _ _ _ _ _ _ ho2' (by omega) (by omega) (by omega)).mono ?_
  rintro e w4 ⟨rfl, ho4, hg4, hz4⟩
  have ho1'' := ho1'.kept (B := w1.heap.size) (fun k hk => (hlt1 k hk).2) (fun k hk => (hlt2 k hk).1) hg4
  have hB4 : Below w.heap.size w w4 := hB3.grown hg4 (by omega) (fun k hk => Nat.le_trans hs1 (hlt2 k hk).1)
  clear ho1' ho2' hB3 hg4
  have Hz4 := Lib.hid hz4
  clear hz4
  go_wp2_with fail
  refine (c_laws_heldInt64S _ _ _ _ _ (read_seqI ho4) (by omega) (by omega) (by omega)).mono ?_
  rintro e w4 ⟨rfl, rfl⟩
  go_wp2_with fail
  refine (c_impl_TrimRow x w4 hx).mono ?_
  rintro e w5 ⟨a5, c5, rfl, ho5, hb5⟩
  go_wp2_with fail
  refine (c_eqInt64S _ _ _ _ _ _ _ ho5.read (ho1''.read.below hb5)).mono ?_
  rintro e w6 ⟨rfl, hb6⟩
  go_wp2_with fail
  refine (c_laws_heldInt64S _ _ _ _ _ (((read_seqI ho4).below hb5).below hb6) (by omega) (by omega) (by omega)).mono ?_
  rintro e w6 ⟨rfl, rfl⟩
  go_wp2_with fail
  go_ret
  exact ⟨rfl, bl_step hb6 (Nat.le_trans hB4.size hb5.size) (bl_step hb5 hB4.size hB4)⟩

end Go.Proofs.Ytpfkfppooeikeaa
/- Walks of functions of the program, printed by a program of the prover. -/
namespace Go.Proofs.Ytpfkfppooeikeaa
open Go.RowKit
set_option maxHeartbeats 400000
set_option maxRecDepth 100000
theorem c_spec_PollRow (x : Int) (w : World) (hx : inI64 x) : Calls Try.prog 32 #[.int .i64 x] w (RetI w 2 (oneRow 8 x 2 3)) := by
  go_enter Try.func32, Try.ntmps32
  go_wp2_with fail
  refine (c_spec_l11One _ _ _ _ _ (by simp [inI64]) hx).mono ?_
  rintro e w1 ⟨a1, c1, rfl, ho1, hb1⟩
  go_wp2_with fail
  go_ret
  exact ⟨a1, c1, rfl, ho1, hb1⟩
theorem c_impl_PollRow (x : Int) (w : World) (hx : inI64 x) : Calls Try.prog 33 #[.int .i64 x] w (RetI w 2 (oneRow 8 x 2 3)) := by
  go_enter Try.func33, Try.ntmps33
  go_wp2_with fail
  refine (c_encoded_poll _ _ hx).mono ?_
  rintro e w1 ⟨a1, c1, rfl, ho1, hb1⟩
  go_wp2_with fail
  go_ret
  exact ⟨a1, c1, rfl, ho1, hb1⟩
theorem c_law_PollRow (x : Int) (w : World) (hx : inI64 x) : Calls Try.prog 5 #[.int .i64 x] w fun e w' => e = .returned (.bool true) ∧ Below w.heap.size w w' := by
  have hL : (oneRow 8 x 2 3).length ≤ 1000 := by unfold oneRow; split <;> simp
  go_enter Try.func5, Try.ntmps5
  go_wp2_with fail
  refine (c_spec_PollRow x w hx).mono ?_
  rintro e w1 ⟨a1, c1, rfl, ho1, hb1⟩
  go_wp2_with fail
  refine (c_impl_PollRow x w1 hx).mono ?_
  rintro e w2 ⟨a2, c2, rfl, ho2, hb2⟩
  go_wp2_with fail
  refine (c_eqInt64S _ _ _ _ _ _ _ ho2.read (ho1.read.below hb2)).mono ?_
  rintro e w3 ⟨rfl, hb3⟩
  have hlt1 := ho1.2.2.lt
  have hlt2 := ho2.2.2.lt
  have ho1' : IntsO w3 w.heap.size 2 (.slice a1 (oneRow 8 x 2 3).length c1) (oneRow 8 x 2 3) := (ho1.below hb2).below hb3
  have ho2' : IntsO w3 w1.heap.size 2 (.slice a2 (oneRow 8 x 2 3).length c2) (oneRow 8 x 2 3) := ho2.below hb3
  have hB3 : Below w.heap.size w w3 := bl_step hb3 (Nat.le_trans hb1.size hb2.size) (bl_step hb2 hb1.size hb1)
  have hs1 := hb1.size
  have hs2 := hb2.size
  have hs3 := hb3.size
  clear ho1 ho2 hb1 hb2 hb3
  go_wp2_with fail
  refine (c_laws_markInt64S _ _ _ _ _ _ ho2' (by omega) (by omega) (by omega)).mono ?_
  rintro e w4 ⟨rfl, ho4, hg4, hz4⟩
  have ho1'' := ho1'.kept (B := w1.heap.size) (fun k hk => (hlt1 k hk).2) (fun k hk => (hlt2 k hk).1) hg4
  have hB4 : Below w.heap.size w w4 := hB3.grown hg4 (by omega) (fun k hk => Nat.le_trans hs1 (hlt2 k hk).1)
  clear ho1' ho2' hB3 hg4
  have Hz4 := Lib.hid hz4
  clear hz4
  go_wp2_with fail
  refine (c_laws_heldInt64S _ _ _ _ _ (read_seqI ho4) (by omega) (by omega) (by omega)).mono ?_
  rintro e w4 ⟨rfl, rfl⟩
  go_wp2_with fail
  refine (c_impl_PollRow x w4 hx).mono ?_
  rintro e w5 ⟨a5, c5, rfl, ho5, hb5⟩
  go_wp2_with fail
  refine (c_eqInt64S _ _ _ _ _ _ _ ho5.read (ho1''.read.below hb5)).mono ?_
  rintro e w6 ⟨rfl, hb6⟩
  go_wp2_with fail
  refine (c_laws_heldInt64S _ _ _ _ _ (((read_seqI ho4).below hb5).below hb6) (by omega) (by omega) (by omega)).mono ?_
  rintro e w6 ⟨rfl, rfl⟩
  go_wp2_with fail
  go_ret
  exact ⟨rfl, bl_step hb6 (Nat.le_trans hB4.size hb5.size) (bl_step hb5 hB4.size hB4)⟩

end Go.Proofs.Ytpfkfppooeikeaa
/- Walks of functions of the program, printed by a program of the prover. -/
namespace Go.Proofs.Ytpfkfppooeikeaa
open Go.ChangeShapes Go.WideShapes Go.ChangeAt Go.RowKit Go.Deep
set_option maxHeartbeats 1600000
set_option maxRecDepth 100000

def RetRow9 (w : World) (g : Nat) (k : Int) (e : Ending) (w' : World) : Prop :=
  ∃ (l : List Int) (ao : Option Addr) (cap : Nat), e = .returned (.slice ao l.length cap) ∧ KindsAre k l ∧ IntsR w' ao l ∧ l.length ≤ cap ∧ Dice w' g ∧ w.grownBy w' (some g)
theorem own_cap {w : World} {lo ty cap : Nat} {ao : Option Addr} {l : List Int} (h : IntsO w lo ty (.slice ao l.length cap) l) : l.length ≤ cap := by
  rcases h.2.2.2 with ⟨h7, _⟩ | ⟨g9, cap9, cur, h7, _, _, hnc, _⟩
  · have h8 := (Value.slice.inj h7).2.1; omega
  · have h8 := (Value.slice.inj h7).2.2; omega
theorem retRow9 {w w1 w2 : World} {g : Nat} {k : Int} {l : List Int} {ao : Option Addr} {cap lo : Nat} (hk : KindsAre k l) (ho : IntsO w2 lo 2 (.slice ao l.length cap) l) (hb : Below w1.heap.size w1 w2) (hD : Dice w1 g) (hG : w.grownBy w1 (some g)) :
    RetRow9 w g k (.returned (.slice ao l.length cap)) w2 := ⟨l, ao, cap, rfl, hk, ho.read, own_cap ho, hD.below hb, hG.andThen (grown_of_below hb) (fun j hj => by cases hj)⟩
theorem askOk_in {c s k a b x y : Int} (h : askOk c s k a b x y = true) : inI64 c ∧ inI64 s ∧ inI64 k ∧ inI64 a ∧ inI64 b ∧ inI64 x ∧ inI64 y := by
  simp only [askOk, inB, Bool.and_eq_true, decide_eq_true_eq] at h
  have h7 := opOk_nums h.2.2
  unfold inI64
  omega
theorem feedOk_in {bs la : Int} {D : List (Int × Int × Int × Int × Int × Int × Int × Int × Int)} (h : feedOk bs la D = true) : inI64 bs ∧ inI64 la := by
  simp only [feedOk, inB, Bool.and_eq_true, decide_eq_true_eq] at h
  unfold inI64
  omega
theorem jobsOk_in {i t h e u : Int} {D : List (Int × Int)} (hj : jobsOk i t h e u D = true) : inI64 i ∧ inI64 t ∧ inI64 h ∧ inI64 e ∧ inI64 u := by
  simp only [jobsOk, inB, Bool.and_eq_true, Bool.or_eq_true, decide_eq_true_eq, beq_iff_eq] at hj
  unfold inI64
  omega
theorem c_w9Row_1 (g : Nat) (w : World) (hD : Dice w g) : Calls Try.prog 89 #[.pointer (some ⟨g, 0, none⟩), .int .i64 1] w (RetRow9 w g 1) := by
  have hlt := hD.lt
  have hG : w.grownBy w (some g) := ⟨rfl, rfl, rfl, Nat.le_refl _, fun _ _ _ => rfl⟩
  go_enter Try.func89, Try.ntmps89
  go_wp2_with fail
  refine (c_w9Ask g _ hD).mono ?_
  rintro e wm ⟨c, s, k, a, b, x, y, rfl, hO, hDq, hgq⟩
  have hsq := hgq.size
  replace hD := hDq
  replace hG := hG.trans hgq
  clear hDq hgq
  obtain ⟨i1, i2, i3, i4, i5, i6, i7⟩ := askOk_in hO
  go_wp2_with fail
  refine (c_impl_AskRow c s k a b x y _ i1 i2 i3 i4 i5 i6 i7).mono ?_
  rintro e w9 ⟨ao, cap, rfl, ho, hb⟩
  go_wp2_with fail
  refine bodyPost_ret (v := .slice ao (rowAsk c s k a b x y).length cap) (by simp [results, Try.results89, go_sem, *]) rfl (retRow9 ((row_ask hO).1) ho hb hD hG)
theorem c_w9Row_2 (g : Nat) (w : World) (hD : Dice w g) : Calls Try.prog 89 #[.pointer (some ⟨g, 0, none⟩), .int .i64 2] w (RetRow9 w g 2) := by
  have hlt := hD.lt
  have hG : w.grownBy w (some g) := ⟨rfl, rfl, rfl, Nat.le_refl _, fun _ _ _ => rfl⟩
  go_enter Try.func89, Try.ntmps89
  go_wp2_with fail
  refine (c_below g _ _ hD (by omega) (by omega)).mono ?_
  rintro e wq ⟨q, rfl, q0, q1, hDq, hgq⟩
  have hsq := hgq.size
  (first | simp only [World.size_setCell] at hsq | simp only [World.size_alloc] at hsq | skip)
  replace hD := hDq
  replace hG := hG.trans hgq
  clear hDq hgq
  go_wp2_with fail
  refine (c_below g _ _ hD (by omega) (by omega)).mono ?_
  rintro e wc ⟨c, rfl, c0, c1, hDq, hgq⟩
  have hsq := hgq.size
  (first | simp only [World.size_setCell] at hsq | simp only [World.size_alloc] at hsq | skip)
  replace hD := hDq
  replace hG := hG.trans hgq
  clear hDq hgq
  go_wp2_with fail
  refine (c_below g _ _ hD (by omega) (by omega)).mono ?_
  rintro e wi ⟨i, rfl, i0, i1, hDq, hgq⟩
  have hsq := hgq.size
  (first | simp only [World.size_setCell] at hsq | simp only [World.size_alloc] at hsq | skip)
  replace hD := hDq
  replace hG := hG.trans hgq
  clear hDq hgq
  have hO : ackOk (2 + c) (1 + q) (1 + i) (1 + q) = true := by simp [ackOk, inB]; omega
  go_wp2_with fail
  refine (c_impl_AckRow (2 + c) (1 + q) (1 + i) (1 + q) _ (by unfold inI64; omega) (by unfold inI64; omega) (by unfold inI64; omega) (by unfold inI64; omega)).mono ?_
  rintro e w9 ⟨ao, cap, rfl, ho, hb⟩
  go_wp2_with fail
  refine bodyPost_ret (v := .slice ao (rowAck (2 + c) (1 + q) (1 + i) (1 + q)).length cap) (by simp [results, Try.results89, go_sem, *]) rfl (retRow9 ((row_ack hO).1) ho hb hD hG)
theorem c_w9Row_3 (g : Nat) (w : World) (hD : Dice w g) : Calls Try.prog 89 #[.pointer (some ⟨g, 0, none⟩), .int .i64 3] w (RetRow9 w g 3) := by
  have hlt := hD.lt
  have hG : w.grownBy w (some g) := ⟨rfl, rfl, rfl, Nat.le_refl _, fun _ _ _ => rfl⟩
  go_enter Try.func89, Try.ntmps89
  go_wp2_with fail
  refine (c_below g _ _ hD (by omega) (by omega)).mono ?_
  rintro e wx ⟨x, rfl, x0, x1, hDq, hgq⟩
  have hsq := hgq.size
  (first | simp only [World.size_setCell] at hsq | simp only [World.size_alloc] at hsq | skip)
  replace hD := hDq
  replace hG := hG.trans hgq
  clear hDq hgq
  go_wp2_with fail
  refine (c_impl_FetchRow (1 + x) _ (by unfold inI64; omega)).mono ?_
  rintro e w9 ⟨ao, cap, rfl, ho, hb⟩
  go_wp2_with fail
  refine bodyPost_ret (v := .slice ao (oneRow 3 (1 + x) 1 2001).length cap) (by simp [results, Try.results89, go_sem, *]) rfl (retRow9 (row_one3 (by simp [inB]; omega)) ho hb hD hG)
theorem c_w9Row_5 (g : Nat) (w : World) (hD : Dice w g) : Calls Try.prog 89 #[.pointer (some ⟨g, 0, none⟩), .int .i64 5] w (RetRow9 w g 5) := by
  have hlt := hD.lt
  have hG : w.grownBy w (some g) := ⟨rfl, rfl, rfl, Nat.le_refl _, fun _ _ _ => rfl⟩
  go_enter Try.func89, Try.ntmps89
  go_wp2_with fail
  refine (c_below g _ _ hD (by omega) (by omega)).mono ?_
  rintro e wx ⟨x, rfl, x0, x1, hDq, hgq⟩
  have hsq := hgq.size
  (first | simp only [World.size_setCell] at hsq | simp only [World.size_alloc] at hsq | skip)
  replace hD := hDq
  replace hG := hG.trans hgq
  clear hDq hgq
  go_wp2_with fail
  refine (c_impl_TrimRow (1 + x) _ (by unfold inI64; omega)).mono ?_
  rintro e w9 ⟨ao, cap, rfl, ho, hb⟩
  go_wp2_with fail
  refine bodyPost_ret (v := .slice ao (oneRow 5 (1 + x) 1 2000).length cap) (by simp [results, Try.results89, go_sem, *]) rfl (retRow9 (row_one5 (by simp [inB]; omega)) ho hb hD hG)
theorem c_w9Row_8 (g : Nat) (w : World) (hD : Dice w g) : Calls Try.prog 89 #[.pointer (some ⟨g, 0, none⟩), .int .i64 8] w (RetRow9 w g 8) := by
  have hlt := hD.lt
  have hG : w.grownBy w (some g) := ⟨rfl, rfl, rfl, Nat.le_refl _, fun _ _ _ => rfl⟩
  go_enter Try.func89, Try.ntmps89
  go_wp2_with fail
  refine (c_below g _ _ hD (by omega) (by omega)).mono ?_
  rintro e wx ⟨x, rfl, x0, x1, hDq, hgq⟩
  have hsq := hgq.size
  (first | simp only [World.size_setCell] at hsq | simp only [World.size_alloc] at hsq | skip)
  replace hD := hDq
  replace hG := hG.trans hgq
  clear hDq hgq
  go_wp2_with fail
  refine (c_impl_PollRow (2 + x) _ (by unfold inI64; omega)).mono ?_
  rintro e w9 ⟨ao, cap, rfl, ho, hb⟩
  go_wp2_with fail
  refine bodyPost_ret (v := .slice ao (oneRow 8 (2 + x) 2 3).length cap) (by simp [results, Try.results89, go_sem, *]) rfl (retRow9 (row_one8 (by simp [inB]; omega)) ho hb hD hG)
theorem c_w9Row_4 (g : Nat) (w : World) (hD : Dice w g) : Calls Try.prog 89 #[.pointer (some ⟨g, 0, none⟩), .int .i64 4] w (RetRow9 w g 4) := by
  have hlt := hD.lt
  have hG : w.grownBy w (some g) := ⟨rfl, rfl, rfl, Nat.le_refl _, fun _ _ _ => rfl⟩
  go_enter Try.func89, Try.ntmps89
  go_wp2_with fail
  refine (c_w9Feed g _ hD).mono ?_
  rintro e wm ⟨bs, la, D, af, cf, rfl, hO, hcf, hR, hDq, hgq⟩
  have hsq := hgq.size
  replace hD := hDq
  replace hG := hG.trans hgq
  clear hDq hgq
  obtain ⟨i1, i2⟩ := feedOk_in hO
  go_wp2_with fail
  refine (c_impl_FeedRow bs la af cf D _ i1 i2 hR).mono ?_
  rintro e w9 ⟨ao, cap, rfl, ho, hb⟩
  go_wp2_with fail
  refine bodyPost_ret (v := .slice ao (rowFeed bs la D).length cap) (by simp [results, Try.results89, go_sem, *]) rfl (retRow9 ((row_feed hO).1) ho hb hD hG)
theorem c_w9Row_6 (g : Nat) (w : World) (hD : Dice w g) : Calls Try.prog 89 #[.pointer (some ⟨g, 0, none⟩), .int .i64 6] w (RetRow9 w g 6) := by
  have hlt := hD.lt
  have hG : w.grownBy w (some g) := ⟨rfl, rfl, rfl, Nat.le_refl _, fun _ _ _ => rfl⟩
  go_enter Try.func89, Try.ntmps89
  go_wp2_with fail
  refine (c_below g _ _ hD (by omega) (by omega)).mono ?_
  rintro e wa ⟨a, rfl, a0, a1, hDq, hgq⟩
  have hsq := hgq.size
  (first | simp only [World.size_setCell] at hsq | simp only [World.size_alloc] at hsq | skip)
  replace hD := hDq
  replace hG := hG.trans hgq
  clear hDq hgq
  go_wp2_with fail
  refine (c_below g _ _ hD (by omega) (by omega)).mono ?_
  rintro e wb ⟨b, rfl, b0, b1, hDq, hgq⟩
  have hsq := hgq.size
  (first | simp only [World.size_setCell] at hsq | simp only [World.size_alloc] at hsq | skip)
  replace hD := hDq
  replace hG := hG.trans hgq
  clear hDq hgq
  go_wp2_with fail
  refine (c_below g _ _ hD (by omega) (by omega)).mono ?_
  rintro e wc ⟨c, rfl, c0, c1, hDq, hgq⟩
  have hsq := hgq.size
  (first | simp only [World.size_setCell] at hsq | simp only [World.size_alloc] at hsq | skip)
  replace hD := hDq
  replace hG := hG.trans hgq
  clear hDq hgq
  go_wp2_with fail
  refine (c_below g _ _ hD (by omega) (by omega)).mono ?_
  rintro e wx ⟨x, rfl, x0, x1, hDq, hgq⟩
  have hsq := hgq.size
  (first | simp only [World.size_setCell] at hsq | simp only [World.size_alloc] at hsq | skip)
  replace hD := hDq
  replace hG := hG.trans hgq
  clear hDq hgq
  have hO : (inB (4 + a) 2 5 && inB (1 + b) 1 2000 && inB c 0 9 && inB x 0 2000) = true := by simp [inB]; omega
  go_wp2_with fail
  refine (c_impl_ReadRow (4 + a) (1 + b) c x _ (by unfold inI64; omega) (by unfold inI64; omega) (by unfold inI64; omega) (by unfold inI64; omega)).mono ?_
  rintro e w9 ⟨ao, cap, rfl, ho, hb⟩
  go_wp2_with fail
  refine bodyPost_ret (v := .slice ao (rowRead (4 + a) (1 + b) c x).length cap) (by simp [results, Try.results89, go_sem, *]) rfl (retRow9 ((row_read hO).1) ho hb hD hG)
theorem c_w9Row_7 (g : Nat) (w : World) (hD : Dice w g) : Calls Try.prog 89 #[.pointer (some ⟨g, 0, none⟩), .int .i64 7] w (RetRow9 w g 7) := by
  have hlt := hD.lt
  have hG : w.grownBy w (some g) := ⟨rfl, rfl, rfl, Nat.le_refl _, fun _ _ _ => rfl⟩
  go_enter Try.func89, Try.ntmps89
  go_wp2_with fail
  refine (c_below g _ _ hD (by omega) (by omega)).mono ?_
  rintro e wa ⟨a, rfl, a0, a1, hDq, hgq⟩
  have hsq := hgq.size
  (first | simp only [World.size_setCell] at hsq | simp only [World.size_alloc] at hsq | skip)
  replace hD := hDq
  replace hG := hG.trans hgq
  clear hDq hgq
  go_wp2_with fail
  refine (c_below g _ _ hD (by omega) (by omega)).mono ?_
  rintro e wb ⟨b, rfl, b0, b1, hDq, hgq⟩
  have hsq := hgq.size
  (first | simp only [World.size_setCell] at hsq | simp only [World.size_alloc] at hsq | skip)
  replace hD := hDq
  replace hG := hG.trans hgq
  clear hDq hgq
  go_wp2_with fail
  refine (c_below g _ _ hD (by omega) (by omega)).mono ?_
  rintro e wc ⟨c, rfl, c0, c1, hDq, hgq⟩
  have hsq := hgq.size
  (first | simp only [World.size_setCell] at hsq | simp only [World.size_alloc] at hsq | skip)
  replace hD := hDq
  replace hG := hG.trans hgq
  clear hDq hgq
  go_wp2_with fail
  refine (c_below g _ _ hD (by omega) (by omega)).mono ?_
  rintro e wx ⟨x, rfl, x0, x1, hDq, hgq⟩
  have hsq := hgq.size
  (first | simp only [World.size_setCell] at hsq | simp only [World.size_alloc] at hsq | skip)
  replace hD := hDq
  replace hG := hG.trans hgq
  clear hDq hgq
  have hO : valueOk (4 + a) (1 + b) c 1 x = true := by simp [valueOk, foundB, inB]; omega
  go_wp2_with fail
  refine (c_impl_ValueRow (4 + a) (1 + b) c 1 x _ (by unfold inI64; omega) (by unfold inI64; omega) (by unfold inI64; omega) (by unfold inI64; omega) (by unfold inI64; omega)).mono ?_
  rintro e w9 ⟨ao, cap, rfl, ho, hb⟩
  go_wp2_with fail
  refine bodyPost_ret (v := .slice ao (rowValue (4 + a) (1 + b) c 1 x).length cap) (by simp [results, Try.results89, go_sem, *]) rfl (retRow9 ((row_value hO).1) ho hb hD hG)
theorem c_w9Row_9 (g : Nat) (w : World) (hD : Dice w g) : Calls Try.prog 89 #[.pointer (some ⟨g, 0, none⟩), .int .i64 9] w (RetRow9 w g 9) := by
  have hlt := hD.lt
  have hG : w.grownBy w (some g) := ⟨rfl, rfl, rfl, Nat.le_refl _, fun _ _ _ => rfl⟩
  go_enter Try.func89, Try.ntmps89
  go_wp2_with fail
  refine (c_w9Jobs g _ hD).mono ?_
  rintro e wm ⟨ji, jt, jh, je, ju, D, aj, cj, rfl, hO, hR, hDq, hgq⟩
  have hsq := hgq.size
  replace hD := hDq
  replace hG := hG.trans hgq
  clear hDq hgq
  obtain ⟨i1, i2, i3, i4, i5⟩ := jobsOk_in hO
  go_wp2_with fail
  refine (c_impl_JobsRow ji jt jh je ju aj cj D _ i1 i2 i3 i4 i5 hR.read).mono ?_
  rintro e w9 ⟨ao, cap, rfl, ho, hb⟩
  go_wp2_with fail
  refine bodyPost_ret (v := .slice ao (rowJobs ji jt jh je ju D).length cap) (by simp [results, Try.results89, go_sem, *]) rfl (retRow9 ((row_jobs hO).1) ho hb hD hG)
theorem c_w9Row (g : Nat) (k : Int) (h1 : 1 ≤ k) (h9 : k ≤ 9) (w : World) (hD : Dice w g) : Calls Try.prog 89 #[.pointer (some ⟨g, 0, none⟩), .int .i64 k] w (RetRow9 w g k) := by
  obtain rfl | rfl | rfl | rfl | rfl | rfl | rfl | rfl | rfl : k = 1 ∨ k = 2 ∨ k = 3 ∨ k = 4 ∨ k = 5 ∨ k = 6 ∨ k = 7 ∨ k = 8 ∨ k = 9 := by omega
  · exact c_w9Row_1 g w hD
  · exact c_w9Row_2 g w hD
  · exact c_w9Row_3 g w hD
  · exact c_w9Row_4 g w hD
  · exact c_w9Row_5 g w hD
  · exact c_w9Row_6 g w hD
  · exact c_w9Row_7 g w hD
  · exact c_w9Row_8 g w hD
  · exact c_w9Row_9 g w hD

end Go.Proofs.Ytpfkfppooeikeaa
/- Walks of functions of the program, printed by a program of the prover. -/
namespace Go.Proofs.Ytpfkfppooeikeaa
open Go.ChangeShapes Go.WideShapes Go.ChangeAt Go.RowKit Go.Deep
set_option maxHeartbeats 800000
set_option maxRecDepth 100000

theorem c_impl_nodeOk (x : Int) (w : World) : Calls Try.prog 166 #[.int .i64 x] w fun e w' => e = .returned (.bool (inB x 0 5)) ∧ w = w' := by
  go_enter Try.func166, Try.ntmps166
  go_wp2_with (first | (go_at_call 110; refine (c_impl_between _ _ _ _).mono ?_; rintro e w' ⟨rfl, rfl⟩))
  all_goals go_ret
  all_goals exact ⟨rfl, rfl⟩
theorem c_apart40 (w : World) : Calls Try.prog 144 #[.int .i64 4, .int .i64 0] w fun e w' => e = .returned (.bool true) ∧ w = w' := by
  go_enter Try.func144, Try.ntmps144
  go_wp2_with fail
  refine (c_impl_nodeOk _ _).mono ?_
  rw [show inB 4 0 5 = true from rfl]
  rintro e w' ⟨rfl, rfl⟩
  go_wp2_with fail
  refine (c_impl_nodeOk _ _).mono ?_
  rw [show inB 0 0 5 = true from rfl]
  rintro e w' ⟨rfl, rfl⟩
  go_wp2_with fail
  go_ret
  exact ⟨rfl, rfl⟩
theorem c_msgOk40 (ao : Option Addr) (cap : Nat) (l : List Int) (w : World) (h : IntsR w ao l) (h0 : 0 < l.length) (hr : rowOk l = true) : Calls Try.prog 91 #[.agg #[.int .i64 4, .int .i64 0, .slice ao l.length cap]] w fun e w' => e = .returned (.bool true) ∧ Below w.heap.size w w' := by
  have hm := h.2.1
  have H := Lib.hid (h.below ((Below.refl _ _).alloc (Nat.le_refl _) (.cells #[.int .i64 4, .int .i64 0, .slice ao l.length cap] 119)))
  clear h
  go_enter Try.func91, Try.ntmps91
  go_wp2_with fail
  refine (c_apart40 _).mono ?_
  rintro e w' ⟨rfl, rfl⟩
  go_wp2_with fail
  refine (c_impl_RowOk _ _ _ _ H.out).mono ?_
  rw [hr]
  rintro e w' ⟨rfl, rfl⟩
  go_wp2_with fail
  go_ret
  exact ⟨rfl, (Below.refl _ _).alloc (Nat.le_refl _) _⟩

end Go.Proofs.Ytpfkfppooeikeaa
/- Walks of functions of the program, printed by a program of the prover. -/
namespace Go.Proofs.Ytpfkfppooeikeaa
open Go.ChangeShapes Go.WideShapes Go.ChangeAt Go.RowKit Go.Deep
set_option maxHeartbeats 1600000
set_option maxRecDepth 100000

theorem c_OneKind (ao : Option Addr) (cap : Nat) (l : List Int) (w : World) (hB : BytesR w w.heap.size ao l) (hm : l.length ≤ 9223372036854775807) :
    Calls Try.prog 22 #[.slice ao l.length cap] w fun e w' => e = .returned (.bool true) ∧ Below w.heap.size w w' := by
  have HB := Lib.hid hB
  clear hB
  by_cases hb : 4096 < l.length
  · go_enter Try.func22, Try.ntmps22
    go_wp2_with fail
    refine (c_big ao cap l.length w hm).mono ?_
    rintro e w1 ⟨rfl, rfl⟩
    go_wp2_with fail
    go_ret
    exact ⟨rfl, Below.refl _ _⟩
  · have hb4 : decide (4096 < l.length) = false := by simpa using hb
    go_enter Try.func22, Try.ntmps22
    go_wp2_with fail
    refine (c_big ao cap l.length w hm).mono ?_
    rintro e w1 ⟨rfl, rfl⟩
    go_wp2_with fail
    refine (c_roll ao cap l 919 w HB.out (by omega)).mono ?_
    rintro e w1 ⟨rfl, hD, hb1⟩
    have hG : w1.grownBy w1 (some w.heap.size) := ⟨rfl, rfl, rfl, Nat.le_refl _, fun _ _ _ => rfl⟩
    have hs1 := hb1.size
    go_wp2_with fail
    refine (c_below w.heap.size _ _ hD (by omega) (by omega)).mono ?_
    rintro e wq ⟨q, rfl, q0, q1, hDq, hgq⟩
    have hsq := hgq.size
    (first | simp only [World.size_setCell] at hsq | simp only [World.size_alloc] at hsq | skip)
    replace hD := hDq
    replace hG := hG.trans hgq
    clear hDq hgq
    go_wp2_with fail
    refine (c_w9Row w.heap.size (1 + q) (by omega) (by omega) _ hD).mono ?_
    rintro e w2 ⟨r, ar, cr, rfl, hK, hh, hc, hD2, hg2⟩
    have hgg := hG.trans hg2
    have hbw : Below w.heap.size w w2 := bl_grown hgg hs1 (fun k hk => by have h7 := Option.some.inj hk; omega) hb1
    obtain ⟨hk0, a1, a2, a3, a4, a5, a6, a7, a8, a9⟩ := hK
    obtain ⟨hrok, hr0⟩ := rowOk_kind hk0 (by omega)
    clear hD hD2 hg2 hgg hG hb1
    have Hmk : ∀ W : World, (Instr.makeSlice 115 (.int .i64 10) (.int .i64 10)).run Try.prog W = .ok (.slice (some ⟨W.heap.size, 0, none⟩) 10 10) (W.alloc (.cells ([.bool false, .bool false, .bool false, .bool false, .bool false, .bool false, .bool false, .bool false, .bool false, .bool false] : List Value).toArray 4)) := fun W => by kernel_rfl
    have hBx := Bx.new w2 ([.bool false, .bool false, .bool false, .bool false, .bool false, .bool false, .bool false, .bool false, .bool false, .bool false] : List Value) 4
    have hFx := Fx.new w2 ([.bool false, .bool false, .bool false, .bool false, .bool false, .bool false, .bool false, .bool false, .bool false, .bool false] : List Value) 4
    have hbm := (Below.refl _ w2).alloc (Nat.le_refl _) (.cells ([.bool false, .bool false, .bool false, .bool false, .bool false, .bool false, .bool false, .bool false, .bool false, .bool false] : List Value).toArray 4)
    go_wp2_with fail
    refine Calls.mono (by
      have h7 := c_impl_RowAsk ar cr r _ (hh.below hbm) hc
      rw [a1] at h7
      exact h7) ?_
    rintro e w3 ⟨rfl, hbx⟩
    replace hBx := hBx.below hbx
    replace hFx := hFx.below hbx
    replace hbm := bl_step hbx hbm.size hbm
    clear hbx
    have q0 := hBx.2
    have q1 := hFx.2
    go_wp2_with fail
    clear q0 q1
    replace hBx := hBx.set 1 (.bool (decide (1 + q = 1))) (by simp)
    replace hFx := hFx.set ⟨w2.heap.size, 1, none⟩ (.bool (decide (1 + q = 1)))
    replace hbm := hbm.setCell (p := ⟨w2.heap.size, 1, none⟩) (Nat.le_refl _) (.bool (decide (1 + q = 1)))
    simp only [List.set_cons_succ, List.set_cons_zero] at hBx
    refine Calls.mono (by
      have h7 := c_impl_RowAck ar cr r _ (hh.below hbm) hc
      rw [a2] at h7
      exact h7) ?_
    rintro e w4 ⟨rfl, hbx⟩
    replace hBx := hBx.below hbx
    replace hFx := hFx.below hbx
    replace hbm := bl_step hbx hbm.size hbm
    clear hbx
    have q0 := hBx.2
    have q1 := hFx.2
    go_wp2_with fail
    clear q0 q1
    replace hBx := hBx.set 2 (.bool (decide (1 + q = 2))) (by simp)
    replace hFx := hFx.set ⟨w2.heap.size, 2, none⟩ (.bool (decide (1 + q = 2)))
    replace hbm := hbm.setCell (p := ⟨w2.heap.size, 2, none⟩) (Nat.le_refl _) (.bool (decide (1 + q = 2)))
    simp only [List.set_cons_succ, List.set_cons_zero] at hBx
    refine Calls.mono (by
      have h7 := c_impl_RowFetch ar cr r _ (hh.below hbm) hc
      rw [a3] at h7
      exact h7) ?_
    rintro e w5 ⟨rfl, hbx⟩
    replace hBx := hBx.below hbx
    replace hFx := hFx.below hbx
    replace hbm := bl_step hbx hbm.size hbm
    clear hbx
    have q0 := hBx.2
    have q1 := hFx.2
    go_wp2_with fail
    clear q0 q1
    replace hBx := hBx.set 3 (.bool (decide (1 + q = 3))) (by simp)
    replace hFx := hFx.set ⟨w2.heap.size, 3, none⟩ (.bool (decide (1 + q = 3)))
    replace hbm := hbm.setCell (p := ⟨w2.heap.size, 3, none⟩) (Nat.le_refl _) (.bool (decide (1 + q = 3)))
    simp only [List.set_cons_succ, List.set_cons_zero] at hBx
    refine Calls.mono (by
      have h7 := c_impl_RowFeed ar cr r _ (hh.below hbm) hc
      unfold RetRowFeed at h7
      rw [a4] at h7
      exact h7) ?_
    rintro e w6 ⟨x4, y4, rfl, ho, hbx⟩
    replace hBx := hBx.below hbx
    replace hFx := hFx.below hbx
    replace hbm := bl_step hbx hbm.size hbm
    clear hbx ho
    have q0 := hBx.2
    have q1 := hFx.2
    go_wp2_with fail
    clear q0 q1
    replace hBx := hBx.set 4 (.bool (decide (1 + q = 4))) (by simp)
    replace hFx := hFx.set ⟨w2.heap.size, 4, none⟩ (.bool (decide (1 + q = 4)))
    replace hbm := hbm.setCell (p := ⟨w2.heap.size, 4, none⟩) (Nat.le_refl _) (.bool (decide (1 + q = 4)))
    simp only [List.set_cons_succ, List.set_cons_zero] at hBx
    refine Calls.mono (by
      have h7 := c_impl_RowTrim ar cr r _ (hh.below hbm) hc
      rw [a5] at h7
      exact h7) ?_
    rintro e w7 ⟨rfl, hbx⟩
    replace hBx := hBx.below hbx
    replace hFx := hFx.below hbx
    replace hbm := bl_step hbx hbm.size hbm
    clear hbx
    have q0 := hBx.2
    have q1 := hFx.2
    go_wp2_with fail
    clear q0 q1
    replace hBx := hBx.set 5 (.bool (decide (1 + q = 5))) (by simp)
    replace hFx := hFx.set ⟨w2.heap.size, 5, none⟩ (.bool (decide (1 + q = 5)))
    replace hbm := hbm.setCell (p := ⟨w2.heap.size, 5, none⟩) (Nat.le_refl _) (.bool (decide (1 + q = 5)))
    simp only [List.set_cons_succ, List.set_cons_zero] at hBx
    refine Calls.mono (by
      have h7 := c_impl_RowRead ar cr r _ (hh.below hbm) hc
      rw [a6] at h7
      exact h7) ?_
    rintro e w8 ⟨rfl, hbx⟩
    replace hBx := hBx.below hbx
    replace hFx := hFx.below hbx
    replace hbm := bl_step hbx hbm.size hbm
    clear hbx
    have q0 := hBx.2
    have q1 := hFx.2
    go_wp2_with fail
    clear q0 q1
    replace hBx := hBx.set 6 (.bool (decide (1 + q = 6))) (by simp)
    replace hFx := hFx.set ⟨w2.heap.size, 6, none⟩ (.bool (decide (1 + q = 6)))
    replace hbm := hbm.setCell (p := ⟨w2.heap.size, 6, none⟩) (Nat.le_refl _) (.bool (decide (1 + q = 6)))
    simp only [List.set_cons_succ, List.set_cons_zero] at hBx
    refine Calls.mono (by
      have h7 := c_impl_RowValue ar cr r _ (hh.below hbm) hc
      rw [a7] at h7
      exact h7) ?_
    rintro e w9 ⟨rfl, hbx⟩
    replace hBx := hBx.below hbx
    replace hFx := hFx.below hbx
    replace hbm := bl_step hbx hbm.size hbm
    clear hbx
    have q0 := hBx.2
    have q1 := hFx.2
    go_wp2_with fail
    clear q0 q1
    replace hBx := hBx.set 7 (.bool (decide (1 + q = 7))) (by simp)
    replace hFx := hFx.set ⟨w2.heap.size, 7, none⟩ (.bool (decide (1 + q = 7)))
    replace hbm := hbm.setCell (p := ⟨w2.heap.size, 7, none⟩) (Nat.le_refl _) (.bool (decide (1 + q = 7)))
    simp only [List.set_cons_succ, List.set_cons_zero] at hBx
    refine Calls.mono (by
      have h7 := c_impl_RowPoll ar cr r _ (hh.below hbm) hc
      rw [a8] at h7
      exact h7) ?_
    rintro e w10 ⟨rfl, hbx⟩
    replace hBx := hBx.below hbx
    replace hFx := hFx.below hbx
    replace hbm := bl_step hbx hbm.size hbm
    clear hbx
    have q0 := hBx.2
    have q1 := hFx.2
    go_wp2_with fail
    clear q0 q1
    replace hBx := hBx.set 8 (.bool (decide (1 + q = 8))) (by simp)
    replace hFx := hFx.set ⟨w2.heap.size, 8, none⟩ (.bool (decide (1 + q = 8)))
    replace hbm := hbm.setCell (p := ⟨w2.heap.size, 8, none⟩) (Nat.le_refl _) (.bool (decide (1 + q = 8)))
    simp only [List.set_cons_succ, List.set_cons_zero] at hBx
    refine Calls.mono (by
      have h7 := c_impl_RowJobs ar cr r _ (hh.below hbm) hc
      unfold RetRowJobs at h7
      rw [a9] at h7
      exact h7) ?_
    rintro e w11 ⟨x9, y9, rfl, ho, hbx⟩
    replace hBx := hBx.below hbx
    replace hFx := hFx.below hbx
    replace hbm := bl_step hbx hbm.size hbm
    clear hbx ho
    have q0 := hBx.2
    have q1 := hFx.2
    go_wp2_with fail
    clear q0 q1
    replace hBx := hBx.set 9 (.bool (decide (1 + q = 9))) (by simp)
    replace hFx := hFx.set ⟨w2.heap.size, 9, none⟩ (.bool (decide (1 + q = 9)))
    replace hbm := hbm.setCell (p := ⟨w2.heap.size, 9, none⟩) (Nat.le_refl _) (.bool (decide (1 + q = 9)))
    simp only [List.set_cons_succ, List.set_cons_zero] at hBx
    have HL : ∀ j : Nat, 1 ≤ j → j < 10 → ([.bool false, .bool (decide (1 + q = 1)), .bool (decide (1 + q = 2)), .bool (decide (1 + q = 3)), .bool (decide (1 + q = 4)), .bool (decide (1 + q = 5)), .bool (decide (1 + q = 6)), .bool (decide (1 + q = 7)), .bool (decide (1 + q = 8)), .bool (decide (1 + q = 9))] : List Value)[j]? = some (.bool (decide (1 + q = (j : Int)))) := fun j h1 h2 => by
      obtain rfl | rfl | rfl | rfl | rfl | rfl | rfl | rfl | rfl : j = 1 ∨ j = 2 ∨ j = 3 ∨ j = 4 ∨ j = 5 ∨ j = 6 ∨ j = 7 ∨ j = 8 ∨ j = 9 := by omega
      all_goals rfl
    go_loopw [7] (fun i wr => ∃ j : Nat, 1 ≤ j ∧ j ≤ 10 ∧ i = .int .i64 j ∧ Bx wr w2.heap.size [.bool false, .bool (decide (1 + q = 1)), .bool (decide (1 + q = 2)), .bool (decide (1 + q = 3)), .bool (decide (1 + q = 4)), .bool (decide (1 + q = 5)), .bool (decide (1 + q = 6)), .bool (decide (1 + q = 7)), .bool (decide (1 + q = 8)), .bool (decide (1 + q = 9))] ∧ Below w2.heap.size w2 wr) (fun i _ => 10 - (intOf i).toNat)
    case atStart => exact ⟨1, by omega, by omega, rfl, hBx, hbm⟩
    case round =>
      clear hBx hbm hFx
      obtain ⟨j, h1, h10, rfl, hBx, hbm⟩ := hrel
      by_cases hlt : j < 10
      · have kc := (hBx.2 j).trans (HL j h1 hlt)
        have hp : (j : Int) < 10 := by omega
        obtain ⟨v, e1, e2⟩ : ∃ v : Bool, decide (1 + q = (j : Int)) = v ∧ ((j : Int) == 1 + q) = v := by
          by_cases he : 1 + q = (j : Int)
          · exact ⟨true, by simp [he], by simp [he]⟩
          · exact ⟨false, by simp [he], by simp; omega⟩
        rw [e1] at kc
        have HBx := Lib.hid hBx
        clear hBx HL e1
        cases v
        · go_wp2_with fail
          go_roundw
          case rel => exact ⟨j + 1, by omega, by omega, by go_num, HBx.out, hbm⟩
          case measure => simp [intOf]; omega
        · go_wp2_with fail
          go_roundw
          case rel => exact ⟨j + 1, by omega, by omega, by go_num, HBx.out, hbm⟩
          case measure => simp [intOf]; omega
      · obtain rfl : j = 10 := by omega
        clear HL
        go_wp2_with fail
        refine (c_impl_KindOf ar cr r _ (hh.below hbm)).mono ?_
        rw [hk0]
        rintro e w' ⟨rfl, rfl⟩
        go_wp2_with fail
        refine (c_msgOk40 ar cr r _ (hh.below hbm) hr0 hrok).mono ?_
        rintro e w9 ⟨rfl, hbx⟩
        replace hbm := bl_step hbx hbm.size hbm
        go_wp2_with fail
        go_ret
        exact ⟨rfl, hbw.trans (hbm.mono hbw.size)⟩

end Go.Proofs.Ytpfkfppooeikeaa
/- An argument of the kind []byte: opened. -/
namespace Go.Proofs.Ytpfkfppooeikeaa
open Go.ChangeShapes Go.WideShapes Go.ChangeAt Go.RowKit Go.Deep
theorem u8_of_wf {x : Int} (h : (Lit.int .u8 x).wf = true) : 0 ≤ x ∧ x ≤ 255 := by
  simp only [Lit.wf, Bool.and_eq_true, decide_eq_true_eq] at h
  have h1 : IntKind.u8.min = 0 := by decide
  have h2 : IntKind.u8.max = 255 := by decide
  omega
theorem open_bytesR {H : Type} {enc : TypeId × Value → H} {P : Program} {W : World} {t e : TypeId} {ao : Option Addr} {len cap : Nat} {d : DataW H} {p : List MemPlace}
    (ht : P.underlying t = some (.slice e)) (he : P.underlying e = some (.int .u8)) (hC : P.cellsOf e = 1) (h : DataW.Trod enc P W 0 (fun _ => true) true t (.slice ao len cap) d p) :
    ∃ l : List Int, len = l.length ∧ BytesR W W.heap.size ao l ∧ l.length ≤ 9223372036854775807 := by
  obtain ⟨fuel, hf⟩ := h
  rcases open_ints ht he hC hf with ⟨hcs, _⟩ | ⟨x, l, c, zs, hcs, _, hl, hm, hz, _, hcell, hwz⟩
  · simp [Value.cells] at hcs
    obtain ⟨rfl, rfl, rfl⟩ := hcs
    exact ⟨[], rfl, ⟨by simp, .inl rfl⟩, by simp⟩
  · simp [Value.cells] at hcs
    obtain ⟨rfl, rfl, rfl⟩ := hcs
    have hzl : zs.length = cap := by simpa using hz
    unfold maxLen at hm
    refine ⟨zs.take len, by simp; omega, ⟨fun y hy => u8_of_wf (hwz y (List.mem_of_mem_take hy)), ?_⟩, by simp; omega⟩
    by_cases h0 : len = 0
    · subst h0; exact .inl (by simp)
    · right
      obtain ⟨b, off, spot⟩ := x
      have hc0 := hcell 0 (by omega)
      have hspot : spot = none := by simpa [Addr.add] using World.cell?_spot hc0
      subst hspot
      refine ⟨b, off, rfl, by have := World.block_lt_of_cell? W _ hc0; simpa [Addr.add] using this, fun i y hy => ?_⟩
      have hi : i < len := by have := (List.getElem?_eq_some_iff.1 hy).1; simp at this; omega
      have h1 := hcell i (by omega)
      rw [List.getElem?_take_of_lt hi] at hy
      have e1 : (Addr.mk b off none).add i = ⟨b, off + i, none⟩ := Addr.add_lit b off i
      rw [e1] at h1
      rw [h1]
      simp [List.getD, hy]
end Go.Proofs.Ytpfkfppooeikeaa
/- Three facts about the whole program that every statement's card asks for, shown once: no function of it may run on entry, what its interfaces lift, and how it was made. No condition. -/
namespace Go.Proofs.Ytpfkfppooeikeaa
open Go

/-- a row of signs by their numbers -/
def signs (l : List Nat) : List Char := l.map Char.ofNat
def sp : Char := Char.ofNat 32
def wHarness : List Char := signs [104, 97, 114, 110, 101, 115, 115]
def wSum : List Char := signs [49, 51, 100, 51, 54, 101, 101, 57, 49, 56, 97, 99, 97, 56, 100, 50, 98, 49, 98, 57, 101, 97, 57, 97, 53, 56, 49, 51, 57, 100, 54, 56, 53, 54, 100, 99, 48, 97, 51, 100, 98, 50, 52, 51, 97, 102, 48, 54, 97, 48, 101, 48, 50, 98, 57, 100, 49, 51, 51, 101, 48, 102, 49, 48]
def wCut : List Char := signs [99, 117, 116]
theorem words_space : ∀ (a r : List Char), a.all (· != sp) = true → wordsSigns (a ++ sp :: r) = a :: wordsSigns r
  | [], r, _ => rfl
  | c :: a, r, h => by
    simp only [List.all_cons, Bool.and_eq_true, bne_iff_ne, ne_eq] at h
    have hw := words_space a r h.2
    show wordsSigns (c :: (a ++ sp :: r)) = _
    rw [wordsSigns]
    · rw [hw]
    · exact h.1
theorem behind {s : List Char} {X : List (List Char)} (hs : isSumSigns s = true) : behindMainWord (wHarness :: s :: wCut :: X) = wCut :: X := by
  have h1 : (wHarness == "harness".toList) = true := by kernel_rfl
  simp only [behindMainWord, hs, h1, Bool.true_or, Bool.and_self, if_true]
theorem strip_cut (X : List (List Char)) : stripLifts liftWords (wCut :: X) = ([], wCut :: X) := by kernel_rfl
theorem make_of {P : Program} {s : List Char} {X : List (List Char)} (h : wordsSigns P.initOrder.toList = wHarness :: s :: wCut :: X) (hs : isSumSigns s = true) : P.make = some .cut := by
  unfold Program.make
  rw [h, behind hs]
  kernel_rfl
theorem lifts_of {P : Program} {s : List Char} {X : List (List Char)} (h : wordsSigns P.initOrder.toList = wHarness :: s :: wCut :: X) (hs : isSumSigns s = true) : P.liftsFinal = false := by
  unfold Program.liftsFinal Program.headLifts
  rw [h, behind hs, strip_cut]
  kernel_rfl
theorem enter_of {P : Program} {s : List Char} {X : List (List Char)} (h : wordsSigns P.initOrder.toList = wHarness :: s :: wCut :: X) (hs : isSumSigns s = true) (h1 : P.laysLater = false) (h2 : P.bearsReflect = false) (h3 : P.doorFits [] = true) : P.mayEnter = true := by
  unfold Program.mayEnter
  rw [h, behind hs]
  simp only [strip_cut, h1, h2, h3]
  kernel_rfl
set_option maxRecDepth 100000 in
/-- the head's words: the string's end is of no account -/
theorem head_chars : ∃ r : List Char, Try.pinned.checked.prog.initOrder.toList = wHarness ++ sp :: (wSum ++ sp :: (wCut ++ sp :: r)) := by
  have h : Try.pinned.checked.prog.initOrder = "harness 13d36ee918aca8d2b1b9ea9a58139d6856dc0a3db243af06a0e02b9d133e0f10 cut at loop.example/g00851/laws.FnExactFetchRow loop.example/g00851/laws.FnExactTrimRow loop.example/g00851/laws.FnExactPollRow loop.example/g00851/laws.FnExactRowFetch loop.example/g00851/laws.FnExactRowTrim loop.example/g00851/laws.FnExactRowPoll loop.example/g00851/laws.FnExactReadRow loop.example/g00851/laws.FnExactFeedOk loop.example/g00851/laws.FnExactValueRow loop.example/g00851/laws.FnExactAckRow loop.example/g00851/laws.FnFedNext loop.example/g00851/laws.FnExactRowRead loop.example/g00851/laws.FnExactRowValue loop.example/g00851/laws.FnExactRowAck loop.example/g00851/laws.FnExactAskRow loop.example/g00851/laws.FnExactRowAsk loop.example/g00851/laws.FnExactJobsRow loop.example/g00851/laws.FnExactRowJobs loop.example/g00851/laws.FnLettersBack loop.example/g00851/laws.FnOneKind loop.example/g00851/laws.FnExactFeedRow loop.example/g00851/laws.FnExactRowFeed" := by kernel_rfl
  rw [h]
  exact ⟨_, String.toList_ofList.trans rfl⟩
theorem head_words : ∃ X : List (List Char), wordsSigns Try.pinned.checked.prog.initOrder.toList = wHarness :: wSum :: wCut :: X := by
  obtain ⟨r, h⟩ := head_chars
  refine ⟨wordsSigns r, ?_⟩
  rw [h, words_space _ _ (by decide), words_space _ _ (by decide), words_space _ _ (by decide)]
theorem fact_enter : Try.pinned.checked.prog.mayEnter = true := by
  obtain ⟨X, h⟩ := head_words
  exact enter_of h (by kernel_rfl) (by kernel_rfl) (by kernel_rfl) (by kernel_rfl)
theorem fact_lifts : (Rows.fnExactFetchRowRow.lifted == Try.pinned.checked.prog.liftsFinal) = true := by
  obtain ⟨X, h⟩ := head_words
  rw [lifts_of h (by kernel_rfl)]
  kernel_rfl
theorem fact_make : (Try.pinned.checked.prog.make == some Rows.fnExactFetchRowRow.make) = true := by
  obtain ⟨X, h⟩ := head_words
  rw [make_of h (by kernel_rfl)]
  kernel_rfl
end Go.Proofs.Ytpfkfppooeikeaa
