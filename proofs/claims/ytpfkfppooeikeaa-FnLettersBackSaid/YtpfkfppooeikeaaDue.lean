/- Walks of functions of the program, printed by a program of the prover. -/
import Derived.Test.YtpfkfppooeikeaaLeaf
import Derived.Test.YtpfkfppooeikeaaSlMark
import Derived.WalkKit
import Derived.WalkSpells
import Derived.Deep.QuietTactic
import Derived.BigQuiet
import Derived.Deep.Light
import Derived.Lib.Hide
import Derived.Deep.RegionHeld3
namespace Go.Proofs.Ytpfkfppooeikeaa
open Go.ChangeShapes Go.WideShapes Go.ChangeAt Go.RowKit Go.Deep
set_option maxHeartbeats 400000
set_option maxRecDepth 100000

def dueCells (d : Int × Int) : List Value := [.int .i64 d.1, .int .i64 d.2]
def dueE : Enc (Int × Int) := { n := 2, cells := dueCells, len := fun _ => rfl, pos := by decide, ok := fun d => inI64 d.1 ∧ inI64 d.2 }
theorem dueE_n : dueE.n = 2 := rfl
theorem due_at {w : World} {ao : Option Addr} {l : List (Int × Int)} (h : ReadA dueE w ao l) {k : Nat} (hk : k < l.length) :
    ∃ b off, ao = some ⟨b, off, none⟩ ∧ b < w.heap.size ∧ ∀ i (hi : i < l.length), w.cell? ⟨b, off + i * 2, none⟩ = some (.int .i64 l[i].1) ∧ w.cell? ⟨b, off + i * 2 + 1, none⟩ = some (.int .i64 l[i].2) := by
  obtain ⟨b, off, h1, h2, h3⟩ := h.at hk
  exact ⟨b, off, h1, h2, fun i hi => ⟨(h3 i hi).2 0 _ rfl, (h3 i hi).2 1 _ rfl⟩⟩
theorem open_dues {H : Type} {enc : TypeId × Value → H} {P : Program} {w : World} {base : Nat} {spare : Nat → Bool} {held : Bool} {ty : TypeId} {v : Value}
    (hf : flat P 5 ty = some [.int, .int]) (hC : P.cellsOf ty = 2) (h : ClOk enc P w base spare held (.slice ty) v) :
    ∃ (ao : Option Addr) (cap : Nat) (l : List (Int × Int)), v = .slice ao l.length cap ∧ ReadA dueE w ao l := by
  rcases h with rfl | ⟨a, len, cap, n, rfl, hl, hm, hi⟩
  · exact ⟨none, 0, [], rfl, by simp, by simp, .inl rfl⟩
  · have hel : ∀ i, i < len → ∃ d : Int × Int, dueE.ok d ∧ w.cells? base (a.add (i * 2)) 2 = some (dueCells d) := fun i hlt => by
      obtain ⟨cs', y, h1, h2⟩ := hi i hlt
      have h3 := flat_open 5 ty cs' y _ n hf h2
      obtain ⟨_, r0, e0, ⟨p0, rfl, q0⟩, h4⟩ := h3.cons
      obtain ⟨_, r1, e1, ⟨p1, rfl, q1⟩, h5⟩ := h4.cons
      have e9 := h5.nil
      subst e9
      subst e1
      subst e0
      rw [hC] at h1
      exact ⟨(p0, p1), ⟨q0, q1⟩, h1⟩
    exact open_enc dueE hl hm hel
/-- the marks of the laws -/
def dueMk (k : Int) (i : Nat) : Int × Int := (k + 2 * (i : Int), k + 2 * (i : Int) + 1)
theorem dueMk_ok {k : Int} {i : Nat} (h0 : 0 ≤ k) (h1 : k ≤ 1099511627776) (h2 : i ≤ 1099511627776) : dueE.ok (dueMk k i) := ⟨by simp only [dueMk]; unfold inI64; omega, by simp only [dueMk]; unfold inI64; omega⟩
theorem c_laws_toDue (a b : Int) (w : World) : Calls Try.prog 164 #[.agg #[.int .i64 a, .int .i64 b]] w fun e w' => e = .returned (.agg #[.int .i64 a, .int .i64 b]) ∧ Below w.heap.size w w' := by
  go_enter Try.func164, Try.ntmps164
  go_wp2
  refine bodyPost_ret (v := .agg #[.int .i64 a, .int .i64 b]) (by simp [results, Try.results164, go_sem, *]) rfl ⟨rfl, ?_⟩
  (repeat (first | with_reducible exact Below.refl _ _ | ((with_reducible refine bl_alloc ?_ ?_); (focus (first | (simp; done) | (simp; omega) | omega))) | ((with_reducible refine bl_set ?_ ?_); (focus (first | (simp; done) | (simp; omega) | omega))) | ((with_reducible refine bl_later ?_ ?_); (focus (first | (simp; done) | (simp; omega) | omega))) | with_reducible refine bl_drew ?_ | with_reducible refine bl_drewN ?_ | ((with_reducible refine bl_step (by assumption) ?_ ?_); (focus (first | (simp; done) | (simp; omega) | omega)))))

theorem c_laws_szDueS (ao : Option Addr) (cap n : Nat) (left : Int) (w : World) (h0 : 0 ≤ left) (h1 : left ≤ 1048576) (hn : n ≤ 9223372036854775807) :
    Calls Try.prog 131 #[.slice ao n cap, .int .i64 left] w fun e w' => e = .returned (.int .i64 (szB left n)) ∧ w = w' := by
  by_cases hlt : left - n < 0
  · have hs : szB left n = -1 := if_pos hlt
    have Hs := Lib.hid hs
    clear hs
    go_enter Try.func131, Try.ntmps131
    go_wp2
    go_ret
    exact ⟨by rw [Hs.out]; rfl, rfl⟩
  · have hs : szB left n = left - n := if_neg hlt
    have Hs := Lib.hid hs
    clear hs
    go_enter Try.func131, Try.ntmps131
    go_wp2
    go_ret
    exact ⟨by rw [Hs.out]; rfl, rfl⟩

theorem info_Due : (Try.prog.info? 113).map (fun i => (i.zero, i.size, i.bytes)) = some (some (.agg #[.int .i64 0, .int .i64 0]), 2, 16) := by kernel_rfl
theorem c_laws_toDueS (ao : Option Addr) (cap : Nat) (l : List (Int × Int)) (w : World) (h : ReadA dueE w ao l) (hs : l.length ≤ 1099511627776) :
    Calls Try.prog 133 #[.slice ao l.length cap] w (RetA dueE w 113 l) := by
  have hm := h.2.1
  obtain ⟨i0, hi, hz0, hz1, hz2⟩ := info_parts info_Due
  go_enter Try.func133, Try.ntmps133
  go_wp2_with (at_make; refine wpList_make_full _ rfl _ _ 97 rfl w.heap.size 113 i0 (.agg #[.int .i64 0, .int .i64 0]) 2 Try.underlying97 hi hz0 hz1 _ _ _ _ l.length rfl rfl rfl rfl ?c1 ?c2 ?c3 ?_)
  case c1 => rw [hz2]; omega
  case c2 => unfold maxLen; omega
  case c3 => omega
  intro w1 hown hgrow
  have hown1 : ∃ xs, PreA dueE l 0 xs ∧ w1.ownsRow w.heap.size 113 2 (.slice (some ⟨w.heap.size, 0, none⟩) l.length l.length) l.length xs := ⟨_, PreA.zero hown.1, hown⟩
  have hb1 : Below w.heap.size w w1 := (Below.refl _ _).grown hgrow (Nat.le_refl _) (by simp)
  clear hown hgrow
  go_wp2
  go_loopw [4] (fun i wr => ∃ k : Nat, k ≤ l.length ∧ i = .int .i64 k ∧ (∃ xs, PreA dueE l k xs ∧ wr.ownsRow w.heap.size 113 2 (.slice (some ⟨w.heap.size, 0, none⟩) l.length l.length) l.length xs) ∧ Below w.heap.size w wr)
    (fun i _ => l.length - (intOf i).toNat)
  case atStart => exact ⟨0, Nat.zero_le _, rfl, hown1, hb1⟩
  case round =>
    obtain ⟨k, hk, rfl, ⟨xs, hpre, hown⟩, hbel⟩ := hrel
    clear hown1 hb1
    by_cases hlt : k < l.length
    · obtain ⟨b, off, rfl, hbl, hc⟩ := due_at h hlt
      have hck0 : _ := (hbel.cell (p := ⟨b, off + k * 2, none⟩) hbl).trans (hc k hlt).1
      have hck1 : _ := (hbel.cell (p := ⟨b, off + k * 2 + 1, none⟩) hbl).trans (hc k hlt).2
      clear hc
      have Hpre := Lib.hid hpre
      have Hown := Lib.hid hown
      clear hpre hown
      go_wp2_with (go_at_call 164; refine (c_laws_toDue _ _ _).mono ?_; rintro e w2 ⟨rfl, hb2⟩; have hown2 := owns_below Hown.out hb2; obtain ⟨u0, hu0⟩ := Hpre.out.cell hlt (j := 0) (by decide); obtain ⟨u1, hu1⟩ := Hpre.out.cell hlt (j := 1) (by decide); have hroom := PreA.room (E := dueE) hlt; simp only [dueE_n] at hroom hu0 hu1; have hcu0 := (hown2.cellAt (k * 2) (by omega)).trans hu0; have hf0 := hown2.frozenAt (k * 2); have hcu1 := (hown2.cellAt (k * 2 + 1) (by omega)).trans hu1; have hf1 := hown2.frozenAt (k * 2 + 1); have Hown2 := Lib.hid hown2; clear hown2 hu0 hu1 hroom)
      go_roundw
      case rel => exact ⟨k + 1, by omega, by go_num, ⟨_, Hpre.out.step hlt, wsets_owns (dueCells l[k]) _ _ _ Hown2.out⟩, wsets_below (Nat.le_refl _) (dueCells l[k]) _ _ (bl_step hb2 hbel.size hbel)⟩
      case measure => simp [intOf]; omega
    · obtain rfl : k = l.length := by omega
      go_wp2
      go_ret
      exact ⟨_, _, rfl, ⟨h.1, hm, by rw [← hpre.all]; exact hown⟩, hbel⟩

theorem c_laws_eqDue_same (p0 p1 : Int) (w : World) : Calls Try.prog 165 #[.agg #[.int .i64 p0, .int .i64 p1], .agg #[.int .i64 p0, .int .i64 p1]] w fun e w' => e = .returned (.bool true) ∧ Below w.heap.size w w' := by
  go_enter Try.func165, Try.ntmps165
  go_wp2
  go_ret
  exact ⟨rfl, by (repeat (first | with_reducible exact Below.refl _ _ | ((with_reducible refine bl_alloc ?_ ?_); (focus (first | (simp; done) | (simp; omega) | omega))) | ((with_reducible refine bl_set ?_ ?_); (focus (first | (simp; done) | (simp; omega) | omega))) | ((with_reducible refine bl_later ?_ ?_); (focus (first | (simp; done) | (simp; omega) | omega))) | with_reducible refine bl_drew ?_ | with_reducible refine bl_drewN ?_ | ((with_reducible refine bl_step (by assumption) ?_ ?_); (focus (first | (simp; done) | (simp; omega) | omega)))))⟩
theorem c_laws_eqDueS_same (ao ao2 : Option Addr) (cap cap2 : Nat) (l : List (Int × Int)) (w : World) (h : ReadA dueE w ao l) (h2 : ReadA dueE w ao2 l) :
    Calls Try.prog 134 #[.slice ao l.length cap, .slice ao2 l.length cap2] w fun e w' => e = .returned (.bool true) ∧ Below w.heap.size w w' := by
  have hm := h.2.1
  go_enter Try.func134, Try.ntmps134
  go_wp2
  go_loopw [5] (fun i wr => ∃ k : Nat, k ≤ l.length ∧ i = .int .i64 k ∧ Below w.heap.size w wr) (fun i _ => l.length - (intOf i).toNat)
  case atStart => exact ⟨0, Nat.zero_le _, rfl, Below.refl _ _⟩
  case round =>
    obtain ⟨k, hk, rfl, hbel⟩ := hrel
    by_cases hlt : k < l.length
    · obtain ⟨b, off, rfl, hbl, hc⟩ := due_at h hlt
      obtain ⟨b2, off2, rfl, hbl2, hc2⟩ := due_at h2 hlt
      have hck0 : _ := (hbel.cell (p := ⟨b, off + k * 2, none⟩) hbl).trans (hc k hlt).1
      have hck1 : _ := (hbel.cell (p := ⟨b, off + k * 2 + 1, none⟩) hbl).trans (hc k hlt).2
      have hcb0 : _ := (hbel.cell (p := ⟨b2, off2 + k * 2, none⟩) hbl2).trans (hc2 k hlt).1
      have hcb1 : _ := (hbel.cell (p := ⟨b2, off2 + k * 2 + 1, none⟩) hbl2).trans (hc2 k hlt).2
      have hbw := Nat.lt_of_lt_of_le hbl hbel.size
      have hbw2 := Nat.lt_of_lt_of_le hbl2 hbel.size
      clear hc hc2
      have hp : (k : Int) < l.length := by omega
      go_wp2_with fail
      refine wp_region_later (by kernel_rfl) (by kernel_rfl) ?_
      repeat (first | go_big_quiet_step ((go_at_call 165; exact later_call (c_laws_eqDue_same _ _ _))) | quiet_step ((go_at_call 165; exact later_call (c_laws_eqDue_same _ _ _))))
      refine wpQuiet_nil ?_
      intro _ hw'
      obtain ⟨x, hw''⟩ := hw'
      subst hw''
      go_wp2
      go_roundw
      case rel => exact ⟨k + 1, by omega, by go_num, bl_later hbel.size hbel⟩
      case measure => simp [intOf]; omega
    · go_wp2
      go_ret
      exact ⟨rfl, hbel⟩

def RetMarkDue (w : World) (lo : Nat) (ao : Option Addr) (cap : Nat) (n : Nat) (k : Int) (e : Ending) (w' : World) : Prop :=
  e = .returned (.int .i64 (k + 2 * n)) ∧ OwnA dueE w' lo 113 (.slice ao n cap) ((List.range n).map (dueMk k)) ∧ w.grownBy w' (Value.ownBlock (.slice ao n cap)) ∧ w'.heap.size = w.heap.size
theorem c_laws_markDueS (ao : Option Addr) (cap lo : Nat) (l : List (Int × Int)) (k : Int) (w : World) (h : OwnA dueE w lo 113 (.slice ao l.length cap) l) (hk : 0 ≤ k) (hk2 : k ≤ 1099511627776) (hl : l.length ≤ 1099511627776) :
    Calls Try.prog 135 #[.slice ao l.length cap, .int .i64 k] w (RetMarkDue w lo ao cap l.length k) := by
  by_cases h0 : l.length = 0
  · obtain rfl : l = [] := List.eq_nil_of_length_eq_zero h0
    simp only [List.length_nil] at *
    go_enter Try.func135, Try.ntmps135
    go_wp2
    refine wp_loop_rounds 1 ?_
    rw [rounds_succ]
    go_wp2
    go_ret
    exact ⟨by simp, h, World.grownBy.refl _ _, rfl⟩
  · obtain ⟨h1, h2, h3⟩ := h
    have hg : ∃ g, ao = some ⟨g, 0, none⟩ := by
      rcases h3.2 with ⟨_, h5⟩ | ⟨g, cap', cur, h4, _⟩
      · exact absurd h5 h0
      · simp only [Value.slice.injEq] at h4
        exact ⟨g, h4.1⟩
    obtain ⟨g, rfl⟩ := hg
    have H3 := Lib.hid h3
    clear h3
    go_enter Try.func135, Try.ntmps135
    go_wp2
    go_loopw [1, 5] (fun kk i wr => ∃ q : Nat, q ≤ l.length ∧ i = .int .i64 q ∧ kk = .int .i64 (k + 2 * (q : Int)) ∧ Hid (wr.ownsRow lo 113 2 (.slice (some ⟨g, 0, none⟩) l.length cap) l.length ((markA dueMk l k q).flatMap dueCells)) ∧ Hid (w.grownBy wr (some g)) ∧ Hid (wr.heap.size = w.heap.size))
      (fun _ i _ => l.length - (intOf i).toNat)
    case atStart => exact ⟨0, Nat.zero_le _, rfl, by simp, by rw [markA_zero]; exact H3.out, World.grownBy.refl _ _, rfl⟩
    case round =>
      obtain ⟨q, hq, rfl, rfl, Hown, Hgr, Hsz⟩ := hrel
      by_cases hlt : q < l.length
      · have hown := Hown.out
        have hrow : ∀ j, j < 2 → ∃ u, ((markA dueMk l k q).flatMap dueCells)[q * 2 + j]? = some u := fun j hj => row_cell dueE (by rw [length_markA dueMk l k (by omega)]; exact hlt) hj
        have hroom : q * 2 + 2 ≤ l.length * 2 := by omega
        obtain ⟨u0, hu0⟩ := hrow 0 (by decide)
        have hcu0 := (hown.cellAt (q * 2) (by omega)).trans hu0
        have hf0 := hown.frozenAt (q * 2)
        obtain ⟨u1, hu1⟩ := hrow 1 (by decide)
        have hcu1 := (hown.cellAt (q * 2 + 1) (by omega)).trans hu1
        have hf1 := hown.frozenAt (q * 2 + 1)
        clear hu0 hu1 hrow hown
        have hb1 : 0 ≤ k + 2 * (q : Int) := by omega
        have hb2 : k + 2 * (q : Int) ≤ 21990232555520 := by omega
        go_wp2
        go_roundw
        case rel => exact ⟨q + 1, by omega, by go_num, by go_num, Eq.mp (congrArg (fun xs => World.ownsRow _ lo _ _ _ _ xs) (markA_succ dueE dueMk l k hlt)) (wsets_owns (dueCells (dueMk k q)) _ _ _ Hown.out),
          wsets_grown (dueCells (dueMk k q)) _ _ Hgr.out, (wsets_size (dueCells (dueMk k q)) (q * 2) wr).trans Hsz.out⟩
        case measure => simp [intOf]; omega
      · obtain rfl : q = l.length := by omega
        go_wp2
        go_ret
        refine ⟨rfl, ⟨fun y hy => ?_, by simp; omega, ?_⟩, Hgr.out, Hsz.out⟩
        · obtain ⟨i, hi, rfl⟩ := List.mem_map.1 hy
          exact dueMk_ok hk hk2 (by have := List.mem_range.1 hi; omega)
        · have := Hown.out
          rw [markA_all] at this
          rw [List.length_map, List.length_range]
          exact this

theorem c_laws_heldDueS (ao : Option Addr) (cap n : Nat) (k : Int) (w : World) (h : ReadA dueE w ao ((List.range n).map (dueMk k))) (hk : 0 ≤ k) (hk2 : k ≤ 1099511627776) (hl : n ≤ 1099511627776) :
    Calls Try.prog 138 #[.slice ao n cap, .int .i64 k] w fun e w' => e = .returned (.int .i64 (k + 2 * n)) ∧ w = w' := by
  go_enter Try.func138, Try.ntmps138
  go_wp2
  go_loop [1, 5] (fun kk i => ∃ q : Nat, q ≤ n ∧ i = .int .i64 q ∧ kk = .int .i64 (k + 2 * (q : Int))) (fun _ i => n - (intOf i).toNat)
  case atStart => exact ⟨0, Nat.zero_le _, rfl, by simp⟩
  case round =>
    obtain ⟨q, hq, rfl, rfl⟩ := hrel
    by_cases hlt : q < n
    · have hlt2 : q < ((List.range n).map (dueMk k)).length := by simpa using hlt
      obtain ⟨b, off, rfl, hbl, hc⟩ := due_at h hlt2
      have hck0 : _ := (hc q hlt2).1
      rw [mapRange_at] at hck0
      have hck1 : _ := (hc q hlt2).2
      rw [mapRange_at] at hck1
      simp only [dueMk] at *
      clear hc
      have hb1 : 0 ≤ k + 2 * (q : Int) := by omega
      have hb2 : k + 2 * (q : Int) ≤ 21990232555520 := by omega
      go_wp2
      go_round
      case rel => exact ⟨q + 1, by omega, by go_num, by go_num⟩
      case measure => simp [intOf]; omega
    · obtain rfl : q = n := by omega
      go_wp2
      go_ret
      exact ⟨rfl, rfl⟩

def dueLess (x y : Int × Int) : Bool := decide (x.2 < y.2) || (x.2 == y.2 && decide (x.1 < y.1))
theorem c_spec_dueLess (a b c d : Int) (w : World) : Calls Try.prog 174 #[.agg #[.int .i64 a, .int .i64 b], .agg #[.int .i64 c, .int .i64 d]] w fun e w' => e = .returned (.bool (dueLess (a, b) (c, d))) ∧ Below w.heap.size w w' := by
  go_enter Try.func174, Try.ntmps174
  go_wp2
  all_goals go_ret
  all_goals (go_light; refine ⟨by simp_all [dueLess], ?_⟩; (repeat (first | with_reducible exact Below.refl _ _ | ((with_reducible refine bl_alloc ?_ ?_); (focus (first | (simp; done) | (simp; omega) | omega))) | ((with_reducible refine bl_set ?_ ?_); (focus (first | (simp; done) | (simp; omega) | omega))) | ((with_reducible refine bl_later ?_ ?_); (focus (first | (simp; done) | (simp; omega) | omega))) | with_reducible refine bl_drew ?_ | with_reducible refine bl_drewN ?_ | ((with_reducible refine bl_step (by assumption) ?_ ?_); (focus (first | (simp; done) | (simp; omega) | omega))))))
theorem c_impl_dueLess (a b c d : Int) (w : World) : Calls Try.prog 214 #[.agg #[.int .i64 a, .int .i64 b], .agg #[.int .i64 c, .int .i64 d]] w fun e w' => e = .returned (.bool (dueLess (a, b) (c, d))) ∧ Below w.heap.size w w' := by
  go_enter Try.func214, Try.ntmps214
  go_wp2
  all_goals go_ret
  all_goals (go_light; refine ⟨by simp_all [dueLess], ?_⟩; (repeat (first | with_reducible exact Below.refl _ _ | ((with_reducible refine bl_alloc ?_ ?_); (focus (first | (simp; done) | (simp; omega) | omega))) | ((with_reducible refine bl_set ?_ ?_); (focus (first | (simp; done) | (simp; omega) | omega))) | ((with_reducible refine bl_later ?_ ?_); (focus (first | (simp; done) | (simp; omega) | omega))) | with_reducible refine bl_drew ?_ | with_reducible refine bl_drewN ?_ | ((with_reducible refine bl_step (by assumption) ?_ ?_); (focus (first | (simp; done) | (simp; omega) | omega))))))
theorem c_spec_sched (x : Int) (w : World) : Calls Try.prog 162 #[.int .i64 x] w fun e w' => e = .returned (.bool (x == 2 || x == 3)) ∧ w = w' := by
  go_enter Try.func162, Try.ntmps162
  go_wp2
  all_goals go_ret
  all_goals (go_light; refine ⟨by simp_all, rfl⟩)
theorem c_impl_sched (x : Int) (w : World) : Calls Try.prog 213 #[.int .i64 x] w fun e w' => e = .returned (.bool (x == 2 || x == 3)) ∧ w = w' := by
  go_enter Try.func213, Try.ntmps213
  go_wp2
  all_goals go_ret
  all_goals (go_light; refine ⟨by simp_all, rfl⟩)


end Go.Proofs.Ytpfkfppooeikeaa
