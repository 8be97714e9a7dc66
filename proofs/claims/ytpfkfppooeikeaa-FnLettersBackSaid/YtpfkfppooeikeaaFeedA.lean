/- Walks of functions of the program, printed by a program of the prover. -/
import Derived.Test.YtpfkfppooeikeaaEntsA
import Derived.Test.YtpfkfppooeikeaaFeedS
import Derived.Test.YtpfkfppooeikeaaBx
import Derived.WalkKit
import Derived.WalkSpells
import Derived.Deep.QuietTactic
import Derived.BigQuiet
import Derived.Deep.Light
import Derived.Lib.Hide
import Derived.Deep.RegionHeld3
namespace Go.Proofs.Ytpfkfppooeikeaa
open Go.ChangeShapes Go.WideShapes Go.ChangeAt Go.RowKit Go.Deep
set_option maxHeartbeats 1600000
set_option maxRecDepth 100000

def feedIn (bs la : Int) (e : Int × Int × Int × Int × Int × Int × Int × Int × Int) : Bool := decide (bs < e.1) && decide (e.1 ≤ la)
def feedOk (bs la : Int) (l : List (Int × Int × Int × Int × Int × Int × Int × Int × Int)) : Bool := inB bs 0 la && (decide (la ≤ 2000) && (decide (l.length ≤ 3) && (entsOk l && l.all (feedIn bs la))))
theorem feedOk_f1 {bs la : Int} {l : List (Int × Int × Int × Int × Int × Int × Int × Int × Int)} (h : inB la 0 2000 = false) : feedOk bs la l = false := by
  cases hx : feedOk bs la l
  · rfl
  · exfalso
    simp only [feedOk, inB, Bool.and_eq_true, decide_eq_true_eq] at hx
    simp only [inB, Bool.and_eq_false_iff, decide_eq_false_iff_not] at h
    omega
theorem feedOk_f2 {bs la : Int} {l : List (Int × Int × Int × Int × Int × Int × Int × Int × Int)} (h : inB bs 0 la = false) : feedOk bs la l = false := by simp [feedOk, h]
theorem feedOk_f3 {bs la : Int} {l : List (Int × Int × Int × Int × Int × Int × Int × Int × Int)} (h : 3 < l.length) : feedOk bs la l = false := by
  have : decide (l.length ≤ 3) = false := by simp; omega
  simp [feedOk, this]
theorem feedOk_f4 {bs la : Int} {l : List (Int × Int × Int × Int × Int × Int × Int × Int × Int)} (h : entsOk l = false) : feedOk bs la l = false := by simp [feedOk, h]
theorem feedOk_f5 {bs la : Int} {l : List (Int × Int × Int × Int × Int × Int × Int × Int × Int)} (h : 2000 < la) : feedOk bs la l = false := by
  have : decide (la ≤ 2000) = false := by simp; omega
  simp [feedOk, this]
theorem feedOk_f6 {bs la : Int} {l : List (Int × Int × Int × Int × Int × Int × Int × Int × Int)} {k : Nat} (hk : k < l.length) (h : feedIn bs la l[k] = false) : feedOk bs la l = false := by
  have : l.all (feedIn bs la) = false := by rw [List.all_eq_false]; exact ⟨_, List.getElem_mem hk, by simp [h]⟩
  simp [feedOk, this]
theorem feedOk_t {bs la : Int} {l : List (Int × Int × Int × Int × Int × Int × Int × Int × Int)} (h1 : inB bs 0 la = true) (h2 : la ≤ 2000) (h3 : l.length ≤ 3) (h4 : entsOk l = true) (h5 : ∀ k (hk : k < l.length), feedIn bs la l[k] = true) : feedOk bs la l = true := by
  have h6 : l.all (feedIn bs la) = true := by
    rw [List.all_eq_true]
    intro e he
    obtain ⟨i, hi, rfl⟩ := List.getElem_of_mem he
    exact h5 i hi
  simp [feedOk, h1, h2, h3, h4, h6]
theorem entsOk_idx {l : List (Int × Int × Int × Int × Int × Int × Int × Int × Int)} (h : entsOk l = true) : ∀ (i : Nat) (hi : i < l.length), l[i].1 = (l[0]'(by omega)).1 + i
  | 0, _ => by simp
  | i + 1, hi => by
    have h1 := entsOk_at h hi
    rw [entAt_eq hi, entOk1_succ (by omega)] at h1
    simp only [Bool.and_eq_true, beq_iff_eq, decide_eq_true_eq] at h1
    have := entsOk_idx h i (by omega)
    rw [h1.2.1, this]
    push_cast
    omega
/-- what the reference asks of the first and of the last entry -/
theorem feedOk_ends {bs la : Int} {l : List (Int × Int × Int × Int × Int × Int × Int × Int × Int)} (h1 : inB bs 0 la = true) (h2 : inB la 0 2000 = true) (h3 : l.length ≤ 3) (h4 : entsOk l = true) {n : Nat} (h0 : 0 < l.length) (hnl : n < l.length) (hn : l.length = n + 1) :
    feedOk bs la l = (decide (bs < l[0].1) && decide (l[n].1 ≤ la)) := by
  have hla : la ≤ 2000 := by simp [inB] at h2; exact h2.2
  have hlast := entsOk_idx h4 n (by omega)
  rw [Bool.eq_iff_iff]
  constructor
  · intro h
    simp only [feedOk, Bool.and_eq_true, List.all_eq_true, feedIn, decide_eq_true_eq] at h
    have ha := h.2.2.2.2
    simp only [Bool.and_eq_true, decide_eq_true_eq]
    exact ⟨(ha _ (List.getElem_mem (by omega))).1, (ha _ (List.getElem_mem (by omega))).2⟩
  · intro h
    simp only [Bool.and_eq_true, decide_eq_true_eq] at h
    refine feedOk_t h1 hla h3 h4 fun k hk => ?_
    have hx := entsOk_idx h4 k hk
    simp only [feedIn, Bool.and_eq_true, decide_eq_true_eq]
    omega
theorem feedOk_nil {bs la : Int} {l : List (Int × Int × Int × Int × Int × Int × Int × Int × Int)} (h1 : inB bs 0 la = true) (h2 : inB la 0 2000 = true) (h4 : entsOk l = true) (hn : l.length = 0) : feedOk bs la l = true :=
  feedOk_t h1 (by simp [inB] at h2; exact h2.2) (by omega) h4 (fun k hk => by omega)
theorem c_spec_FeedOk (bs la : Int) (ao : Option Addr) (cap : Nat) (l : List (Int × Int × Int × Int × Int × Int × Int × Int × Int)) (w : World) (hl : ReadA entryE w ao l) :
    Calls Try.prog 45 #[.agg #[.int .i64 bs, .int .i64 la, .slice ao l.length cap]] w fun e w' => e = .returned (.bool (feedOk bs la l)) ∧ Below w.heap.size w w' := by
  have hm := hl.2.1
  have Hl : Hid (∀ W, Below w.heap.size w W → ReadA entryE W ao l) := fun W hb => hl.below hb
  cases h1 : inB la 0 2000
  · skip
    have Hr := Lib.hid (feedOk_f1 (bs := bs) (la := la) (l := l) h1)
    go_enter Try.func45, Try.ntmps45
    go_wp2_with (first | (go_at_call 107; refine (c_spec_l1In _ _ _ _).mono ?_; rintro e w' ⟨rfl, rfl⟩) | (go_at_call 108; refine (c_spec_EntriesOk _ _ _ _ (Hl.out _ (by (repeat (first | with_reducible exact Below.refl _ _ | ((with_reducible refine bl_alloc ?_ ?_); (focus (first | (simp; done) | (simp; omega) | omega))) | ((with_reducible refine bl_set ?_ ?_); (focus (first | (simp; done) | (simp; omega) | omega))) | ((with_reducible refine bl_later ?_ ?_); (focus (first | (simp; done) | (simp; omega) | omega))) | with_reducible refine bl_drew ?_ | with_reducible refine bl_drewN ?_ | ((with_reducible refine bl_step (by assumption) ?_ ?_); (focus (first | (simp; done) | (simp; omega) | omega)))))))).mono ?_; rintro e w1 ⟨rfl, hb1⟩; have hBx := (Bx.new w _ 44).below hb1; have hw1 : Below w.heap.size w w1 := bl_step hb1 (by simp) ((Below.refl _ w).alloc (Nat.le_refl _) _); have hsz := hb1.size; (try simp only [World.size_alloc] at hsz); have hc := hBx.2; clear hb1))
    go_ret
    exact ⟨by rw [Hr.out]; rfl, by (repeat (first | with_reducible exact Below.refl _ _ | ((with_reducible refine bl_alloc ?_ ?_); (focus (first | (simp; done) | (simp; omega) | omega))) | ((with_reducible refine bl_set ?_ ?_); (focus (first | (simp; done) | (simp; omega) | omega))) | ((with_reducible refine bl_later ?_ ?_); (focus (first | (simp; done) | (simp; omega) | omega))) | with_reducible refine bl_drew ?_ | with_reducible refine bl_drewN ?_ | ((with_reducible refine bl_step (by assumption) ?_ ?_); (focus (first | (simp; done) | (simp; omega) | omega)))))⟩
  cases h2 : inB bs 0 la
  · skip
    have Hr := Lib.hid (feedOk_f2 (bs := bs) (la := la) (l := l) h2)
    go_enter Try.func45, Try.ntmps45
    go_wp2_with (first | (go_at_call 107; refine (c_spec_l1In _ _ _ _).mono ?_; rintro e w' ⟨rfl, rfl⟩) | (go_at_call 108; refine (c_spec_EntriesOk _ _ _ _ (Hl.out _ (by (repeat (first | with_reducible exact Below.refl _ _ | ((with_reducible refine bl_alloc ?_ ?_); (focus (first | (simp; done) | (simp; omega) | omega))) | ((with_reducible refine bl_set ?_ ?_); (focus (first | (simp; done) | (simp; omega) | omega))) | ((with_reducible refine bl_later ?_ ?_); (focus (first | (simp; done) | (simp; omega) | omega))) | with_reducible refine bl_drew ?_ | with_reducible refine bl_drewN ?_ | ((with_reducible refine bl_step (by assumption) ?_ ?_); (focus (first | (simp; done) | (simp; omega) | omega)))))))).mono ?_; rintro e w1 ⟨rfl, hb1⟩; have hBx := (Bx.new w _ 44).below hb1; have hw1 : Below w.heap.size w w1 := bl_step hb1 (by simp) ((Below.refl _ w).alloc (Nat.le_refl _) _); have hsz := hb1.size; (try simp only [World.size_alloc] at hsz); have hc := hBx.2; clear hb1))
    go_ret
    exact ⟨by rw [Hr.out]; rfl, by (repeat (first | with_reducible exact Below.refl _ _ | ((with_reducible refine bl_alloc ?_ ?_); (focus (first | (simp; done) | (simp; omega) | omega))) | ((with_reducible refine bl_set ?_ ?_); (focus (first | (simp; done) | (simp; omega) | omega))) | ((with_reducible refine bl_later ?_ ?_); (focus (first | (simp; done) | (simp; omega) | omega))) | with_reducible refine bl_drew ?_ | with_reducible refine bl_drewN ?_ | ((with_reducible refine bl_step (by assumption) ?_ ?_); (focus (first | (simp; done) | (simp; omega) | omega)))))⟩
  by_cases h3 : 3 < l.length
  · skip
    have Hr := Lib.hid (feedOk_f3 (bs := bs) (la := la) (l := l) h3)
    go_enter Try.func45, Try.ntmps45
    go_wp2_with (first | (go_at_call 107; refine (c_spec_l1In _ _ _ _).mono ?_; rintro e w' ⟨rfl, rfl⟩) | (go_at_call 108; refine (c_spec_EntriesOk _ _ _ _ (Hl.out _ (by (repeat (first | with_reducible exact Below.refl _ _ | ((with_reducible refine bl_alloc ?_ ?_); (focus (first | (simp; done) | (simp; omega) | omega))) | ((with_reducible refine bl_set ?_ ?_); (focus (first | (simp; done) | (simp; omega) | omega))) | ((with_reducible refine bl_later ?_ ?_); (focus (first | (simp; done) | (simp; omega) | omega))) | with_reducible refine bl_drew ?_ | with_reducible refine bl_drewN ?_ | ((with_reducible refine bl_step (by assumption) ?_ ?_); (focus (first | (simp; done) | (simp; omega) | omega)))))))).mono ?_; rintro e w1 ⟨rfl, hb1⟩; have hBx := (Bx.new w _ 44).below hb1; have hw1 : Below w.heap.size w w1 := bl_step hb1 (by simp) ((Below.refl _ w).alloc (Nat.le_refl _) _); have hsz := hb1.size; (try simp only [World.size_alloc] at hsz); have hc := hBx.2; clear hb1))
    go_ret
    exact ⟨by rw [Hr.out]; rfl, by (repeat (first | with_reducible exact Below.refl _ _ | ((with_reducible refine bl_alloc ?_ ?_); (focus (first | (simp; done) | (simp; omega) | omega))) | ((with_reducible refine bl_set ?_ ?_); (focus (first | (simp; done) | (simp; omega) | omega))) | ((with_reducible refine bl_later ?_ ?_); (focus (first | (simp; done) | (simp; omega) | omega))) | with_reducible refine bl_drew ?_ | with_reducible refine bl_drewN ?_ | ((with_reducible refine bl_step (by assumption) ?_ ?_); (focus (first | (simp; done) | (simp; omega) | omega)))))⟩
  cases h4 : entsOk l
  · skip
    have Hr := Lib.hid (feedOk_f4 (bs := bs) (la := la) (l := l) h4)
    go_enter Try.func45, Try.ntmps45
    go_wp2_with (first | (go_at_call 107; refine (c_spec_l1In _ _ _ _).mono ?_; rintro e w' ⟨rfl, rfl⟩) | (go_at_call 108; refine (c_spec_EntriesOk _ _ _ _ (Hl.out _ (by (repeat (first | with_reducible exact Below.refl _ _ | ((with_reducible refine bl_alloc ?_ ?_); (focus (first | (simp; done) | (simp; omega) | omega))) | ((with_reducible refine bl_set ?_ ?_); (focus (first | (simp; done) | (simp; omega) | omega))) | ((with_reducible refine bl_later ?_ ?_); (focus (first | (simp; done) | (simp; omega) | omega))) | with_reducible refine bl_drew ?_ | with_reducible refine bl_drewN ?_ | ((with_reducible refine bl_step (by assumption) ?_ ?_); (focus (first | (simp; done) | (simp; omega) | omega)))))))).mono ?_; rintro e w1 ⟨rfl, hb1⟩; have hBx := (Bx.new w _ 44).below hb1; have hw1 : Below w.heap.size w w1 := bl_step hb1 (by simp) ((Below.refl _ w).alloc (Nat.le_refl _) _); have hsz := hb1.size; (try simp only [World.size_alloc] at hsz); have hc := hBx.2; clear hb1))
    go_ret
    exact ⟨by rw [Hr.out]; rfl, by (repeat (first | with_reducible exact Below.refl _ _ | ((with_reducible refine bl_alloc ?_ ?_); (focus (first | (simp; done) | (simp; omega) | omega))) | ((with_reducible refine bl_set ?_ ?_); (focus (first | (simp; done) | (simp; omega) | omega))) | ((with_reducible refine bl_later ?_ ?_); (focus (first | (simp; done) | (simp; omega) | omega))) | with_reducible refine bl_drew ?_ | with_reducible refine bl_drewN ?_ | ((with_reducible refine bl_step (by assumption) ?_ ?_); (focus (first | (simp; done) | (simp; omega) | omega)))))⟩
  have h5 : l.length ≤ 3 := by omega
  by_cases h0 : l.length = 0
  · have Hr := Lib.hid (feedOk_nil (bs := bs) (la := la) (l := l) h2 h1 h4 h0)
    have hd : ((l.length : Int) == 0) = true := by simp [h0]
    have H0 := Lib.hid h0
    clear h0
    go_enter Try.func45, Try.ntmps45
    go_wp2_with (first | (go_at_call 107; refine (c_spec_l1In _ _ _ _).mono ?_; rintro e w' ⟨rfl, rfl⟩) | (go_at_call 108; refine (c_spec_EntriesOk _ _ _ _ (Hl.out _ (by (repeat (first | with_reducible exact Below.refl _ _ | ((with_reducible refine bl_alloc ?_ ?_); (focus (first | (simp; done) | (simp; omega) | omega))) | ((with_reducible refine bl_set ?_ ?_); (focus (first | (simp; done) | (simp; omega) | omega))) | ((with_reducible refine bl_later ?_ ?_); (focus (first | (simp; done) | (simp; omega) | omega))) | with_reducible refine bl_drew ?_ | with_reducible refine bl_drewN ?_ | ((with_reducible refine bl_step (by assumption) ?_ ?_); (focus (first | (simp; done) | (simp; omega) | omega)))))))).mono ?_; rintro e w1 ⟨rfl, hb1⟩; have hBx := (Bx.new w _ 44).below hb1; have hw1 : Below w.heap.size w w1 := bl_step hb1 (by simp) ((Below.refl _ w).alloc (Nat.le_refl _) _); have hsz := hb1.size; (try simp only [World.size_alloc] at hsz); have hc := hBx.2; clear hb1))
    go_quiet (fail)
    go_wp2_with fail
    go_ret
    exact ⟨by rw [Hr.out]; rfl, by (repeat (first | with_reducible exact Below.refl _ _ | ((with_reducible refine bl_alloc ?_ ?_); (focus (first | (simp; done) | (simp; omega) | omega))) | ((with_reducible refine bl_set ?_ ?_); (focus (first | (simp; done) | (simp; omega) | omega))) | ((with_reducible refine bl_later ?_ ?_); (focus (first | (simp; done) | (simp; omega) | omega))) | with_reducible refine bl_drew ?_ | with_reducible refine bl_drewN ?_ | ((with_reducible refine bl_step (by assumption) ?_ ?_); (focus (first | (simp; done) | (simp; omega) | omega)))))⟩
  · obtain ⟨n, hn⟩ : ∃ n, l.length = n + 1 := ⟨l.length - 1, by omega⟩
    have h0l : 0 < l.length := by omega
    have hnl : n < l.length := by omega
    have Hr := Lib.hid (feedOk_ends (bs := bs) (la := la) (l := l) h2 h1 h5 h4 h0l hnl hn)
    have hd : ((l.length : Int) == 0) = false := by rw [beq_eq_false_iff_ne]; omega
    obtain ⟨b, off, rfl, hbl, hcc⟩ := entry_at hl h0l
    have k0 := (hcc 0 h0l).1
    have k1 := (hcc n hnl).1
    simp only [Nat.zero_mul, Nat.add_zero] at k0
    have hsub : (l.length : Int) - 1 = (n : Int) := by omega
    have hnl2 : (n : Int) < (l.length : Int) := by omega
    have hp0 : (0 : Int) < (l.length : Int) := by omega
    have Hn := Lib.hid hn
    clear hcc hn h0
    cases h6 : decide (bs < l[0].1)
    · skip
      go_enter Try.func45, Try.ntmps45
      go_wp2_with (first | (go_at_call 107; refine (c_spec_l1In _ _ _ _).mono ?_; rintro e w' ⟨rfl, rfl⟩) | (go_at_call 108; refine (c_spec_EntriesOk _ _ _ _ (Hl.out _ (by (repeat (first | with_reducible exact Below.refl _ _ | ((with_reducible refine bl_alloc ?_ ?_); (focus (first | (simp; done) | (simp; omega) | omega))) | ((with_reducible refine bl_set ?_ ?_); (focus (first | (simp; done) | (simp; omega) | omega))) | ((with_reducible refine bl_later ?_ ?_); (focus (first | (simp; done) | (simp; omega) | omega))) | with_reducible refine bl_drew ?_ | with_reducible refine bl_drewN ?_ | ((with_reducible refine bl_step (by assumption) ?_ ?_); (focus (first | (simp; done) | (simp; omega) | omega)))))))).mono ?_; rintro e w1 ⟨rfl, hb1⟩; have hBx := (Bx.new w _ 44).below hb1; have hw1 : Below w.heap.size w w1 := bl_step hb1 (by simp) ((Below.refl _ w).alloc (Nat.le_refl _) _); have hsz := hb1.size; (try simp only [World.size_alloc] at hsz); have hc := hBx.2; clear hb1))
      have j0 := (hw1.cell (p := ⟨b, off, none⟩) hbl).trans k0
      have j1 := (hw1.cell (p := ⟨b, off + n * 9, none⟩) hbl).trans k1
      go_quiet (fail)
      go_wp2_with fail
      go_ret
      exact ⟨by rw [Hr.out, h6]; rfl, by (repeat (first | with_reducible exact Below.refl _ _ | ((with_reducible refine bl_alloc ?_ ?_); (focus (first | (simp; done) | (simp; omega) | omega))) | ((with_reducible refine bl_set ?_ ?_); (focus (first | (simp; done) | (simp; omega) | omega))) | ((with_reducible refine bl_later ?_ ?_); (focus (first | (simp; done) | (simp; omega) | omega))) | with_reducible refine bl_drew ?_ | with_reducible refine bl_drewN ?_ | ((with_reducible refine bl_step (by assumption) ?_ ?_); (focus (first | (simp; done) | (simp; omega) | omega)))))⟩
    · cases h7 : decide (l[n].1 ≤ la)
      all_goals
        go_enter Try.func45, Try.ntmps45
        go_wp2_with (first | (go_at_call 107; refine (c_spec_l1In _ _ _ _).mono ?_; rintro e w' ⟨rfl, rfl⟩) | (go_at_call 108; refine (c_spec_EntriesOk _ _ _ _ (Hl.out _ (by (repeat (first | with_reducible exact Below.refl _ _ | ((with_reducible refine bl_alloc ?_ ?_); (focus (first | (simp; done) | (simp; omega) | omega))) | ((with_reducible refine bl_set ?_ ?_); (focus (first | (simp; done) | (simp; omega) | omega))) | ((with_reducible refine bl_later ?_ ?_); (focus (first | (simp; done) | (simp; omega) | omega))) | with_reducible refine bl_drew ?_ | with_reducible refine bl_drewN ?_ | ((with_reducible refine bl_step (by assumption) ?_ ?_); (focus (first | (simp; done) | (simp; omega) | omega)))))))).mono ?_; rintro e w1 ⟨rfl, hb1⟩; have hBx := (Bx.new w _ 44).below hb1; have hw1 : Below w.heap.size w w1 := bl_step hb1 (by simp) ((Below.refl _ w).alloc (Nat.le_refl _) _); have hsz := hb1.size; (try simp only [World.size_alloc] at hsz); have hc := hBx.2; clear hb1))
        have j0 := (hw1.cell (p := ⟨b, off, none⟩) hbl).trans k0
        have j1 := (hw1.cell (p := ⟨b, off + n * 9, none⟩) hbl).trans k1
        go_quiet (fail)
        go_wp2_with fail
        go_ret
        exact ⟨by rw [Hr.out, h6, h7]; rfl, by (repeat (first | with_reducible exact Below.refl _ _ | ((with_reducible refine bl_alloc ?_ ?_); (focus (first | (simp; done) | (simp; omega) | omega))) | ((with_reducible refine bl_set ?_ ?_); (focus (first | (simp; done) | (simp; omega) | omega))) | ((with_reducible refine bl_later ?_ ?_); (focus (first | (simp; done) | (simp; omega) | omega))) | with_reducible refine bl_drew ?_ | with_reducible refine bl_drewN ?_ | ((with_reducible refine bl_step (by assumption) ?_ ?_); (focus (first | (simp; done) | (simp; omega) | omega)))))⟩

end Go.Proofs.Ytpfkfppooeikeaa
