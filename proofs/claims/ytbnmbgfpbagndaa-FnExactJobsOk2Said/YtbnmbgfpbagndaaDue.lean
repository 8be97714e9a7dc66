/- Lists of open jobs: conversions, comparisons, sizes. -/
import Derived.Test.YtbnmbgfpbagndaaLeaf
import Derived.Test.YtbnmbgfpbagndaaSl
import Derived.WalkKit
import Derived.WalkSpells
import Derived.Deep.QuietTactic
import Derived.BigQuiet
import Derived.Deep.Light
import Derived.Lib.Hide
namespace Go.Proofs.Ytbnmbgfpbagndaa
open Go.RowKit
set_option maxHeartbeats 400000

def dueCells (d : Int × Int) : List Value := [.int .i64 d.1, .int .i64 d.2]
def dueE : Enc (Int × Int) := { n := 2, cells := dueCells, len := fun _ => rfl, pos := by decide, ok := fun d => inI64 d.1 ∧ inI64 d.2 }
theorem dueE_n : dueE.n = 2 := rfl
theorem due_at {w : World} {ao : Option Addr} {l : List (Int × Int)} (h : ReadA dueE w ao l) {k : Nat} (hk : k < l.length) :
    ∃ b off, ao = some ⟨b, off, none⟩ ∧ b < w.heap.size ∧ ∀ i (hi : i < l.length), w.cell? ⟨b, off + i * 2, none⟩ = some (.int .i64 l[i].1) ∧ w.cell? ⟨b, off + i * 2 + 1, none⟩ = some (.int .i64 l[i].2) := by
  obtain ⟨b, off, h1, h2, h3⟩ := h.at hk
  exact ⟨b, off, h1, h2, fun i hi => ⟨(h3 i hi).2 0 _ rfl, (h3 i hi).2 1 _ rfl⟩⟩

/-- the cell of a slice of two int64 fields, as an argument is read -/
theorem open_dues {H : Type} {enc : TypeId × Value → H} {P : Program} {w : World} {base : Nat} {spare : Nat → Bool} {held : Bool} {ty : TypeId} {v : Value}
    (hf : flat P 5 ty = some [.int, .int]) (hC : P.cellsOf ty = 2) (h : ClOk enc P w base spare held (.slice ty) v) :
    ∃ (ao : Option Addr) (cap : Nat) (l : List (Int × Int)), v = .slice ao l.length cap ∧ ReadA dueE w ao l := by
  rcases h with rfl | ⟨a, len, cap, n, rfl, hl, hm, hi⟩
  · exact ⟨none, 0, [], rfl, by simp, by simp, .inl rfl⟩
  · have hel : ∀ i, i < len → ∃ d : Int × Int, dueE.ok d ∧ w.cells? base (a.add (i * 2)) 2 = some (dueCells d) := fun i hlt => by
      obtain ⟨cs', y, h1, h2⟩ := hi i hlt
      have h3 := flat_open 5 ty cs' y _ n hf h2
      obtain ⟨_, _, e1, ⟨p, rfl, hp⟩, h4⟩ := h3.cons
      obtain ⟨_, _, e2, ⟨q, rfl, hq⟩, h5⟩ := h4.cons
      have e3 := h5.nil
      subst e3
      subst e2
      subst e1
      rw [hC] at h1
      exact ⟨(p, q), ⟨hp, hq⟩, h1⟩
    exact open_enc dueE hl hm hel

def szB (left : Int) (n : Nat) : Int := if left - n < 0 then -1 else left - n

theorem c_laws_szDueS (ao : Option Addr) (cap n : Nat) (left : Int) (w : World) (h0 : 0 ≤ left) (h1 : left ≤ 1048576) (hn : n ≤ 9223372036854775807) :
    Calls Try.prog 59 #[.slice ao n cap, .int .i64 left] w fun e w' => e = .returned (.int .i64 (szB left n)) ∧ w = w' := by
  by_cases hlt : left - n < 0
  · have hs : szB left n = -1 := if_pos hlt
    have Hs := Lib.hid hs
    clear hs
    go_enter Try.func59, Try.ntmps59
    go_wp2
    go_ret
    exact ⟨by rw [Hs.out]; rfl, rfl⟩
  · have hs : szB left n = left - n := if_neg hlt
    have Hs := Lib.hid hs
    clear hs
    go_enter Try.func59, Try.ntmps59
    go_wp2
    go_ret
    exact ⟨by rw [Hs.out]; rfl, rfl⟩

theorem c_laws_toDue (a b : Int) (w : World) : Calls Try.prog 72 #[.agg #[.int .i64 a, .int .i64 b]] w fun e w' => e = .returned (.agg #[.int .i64 a, .int .i64 b]) ∧ Below w.heap.size w w' := by
  go_enter Try.func72, Try.ntmps72
  go_wp2
  refine bodyPost_ret (v := .agg #[.int .i64 a, .int .i64 b]) (by simp [results, Try.results72, go_sem, *]) rfl ⟨rfl, ?_⟩
  (repeat (first | with_reducible exact Below.refl _ _ | ((with_reducible refine bl_alloc ?_ ?_); (focus (first | (simp; done) | (simp; omega) | omega))) | ((with_reducible refine bl_set ?_ ?_); (focus (first | (simp; done) | (simp; omega) | omega))) | ((with_reducible refine bl_later ?_ ?_); (focus (first | (simp; done) | (simp; omega) | omega))) | with_reducible refine bl_drew ?_ | with_reducible refine bl_drewN ?_ | ((with_reducible refine bl_step (by assumption) ?_ ?_); (focus (first | (simp; done) | (simp; omega) | omega)))))

theorem c_laws_eqDue (a b c d : Int) (w : World) : Calls Try.prog 73 #[.agg #[.int .i64 a, .int .i64 b], .agg #[.int .i64 c, .int .i64 d]] w fun e w' => e = .returned (.bool (a == c && b == d)) ∧ Below w.heap.size w w' := by
  go_enter Try.func73, Try.ntmps73
  go_wp2
  all_goals go_ret
  all_goals (go_light; refine ⟨by simp_all, ?_⟩; (repeat (first | with_reducible exact Below.refl _ _ | ((with_reducible refine bl_alloc ?_ ?_); (focus (first | (simp; done) | (simp; omega) | omega))) | ((with_reducible refine bl_set ?_ ?_); (focus (first | (simp; done) | (simp; omega) | omega))) | ((with_reducible refine bl_later ?_ ?_); (focus (first | (simp; done) | (simp; omega) | omega))) | with_reducible refine bl_drew ?_ | with_reducible refine bl_drewN ?_ | ((with_reducible refine bl_step (by assumption) ?_ ?_); (focus (first | (simp; done) | (simp; omega) | omega))))))

def dueLess (x y : Int × Int) : Bool := decide (x.2 < y.2) || (x.2 == y.2 && decide (x.1 < y.1))
theorem c_spec_dueLess (a b c d : Int) (w : World) : Calls Try.prog 71 #[.agg #[.int .i64 a, .int .i64 b], .agg #[.int .i64 c, .int .i64 d]] w fun e w' => e = .returned (.bool (dueLess (a, b) (c, d))) ∧ Below w.heap.size w w' := by
  go_enter Try.func71, Try.ntmps71
  go_wp2
  all_goals go_ret
  all_goals (go_light; refine ⟨by simp_all [dueLess], ?_⟩; (repeat (first | with_reducible exact Below.refl _ _ | ((with_reducible refine bl_alloc ?_ ?_); (focus (first | (simp; done) | (simp; omega) | omega))) | ((with_reducible refine bl_set ?_ ?_); (focus (first | (simp; done) | (simp; omega) | omega))) | ((with_reducible refine bl_later ?_ ?_); (focus (first | (simp; done) | (simp; omega) | omega))) | with_reducible refine bl_drew ?_ | with_reducible refine bl_drewN ?_ | ((with_reducible refine bl_step (by assumption) ?_ ?_); (focus (first | (simp; done) | (simp; omega) | omega))))))
theorem c_impl_dueLess (a b c d : Int) (w : World) : Calls Try.prog 67 #[.agg #[.int .i64 a, .int .i64 b], .agg #[.int .i64 c, .int .i64 d]] w fun e w' => e = .returned (.bool (dueLess (a, b) (c, d))) ∧ Below w.heap.size w w' := by
  go_enter Try.func67, Try.ntmps67
  go_wp2
  all_goals go_ret
  all_goals (go_light; refine ⟨by simp_all [dueLess], ?_⟩; (repeat (first | with_reducible exact Below.refl _ _ | ((with_reducible refine bl_alloc ?_ ?_); (focus (first | (simp; done) | (simp; omega) | omega))) | ((with_reducible refine bl_set ?_ ?_); (focus (first | (simp; done) | (simp; omega) | omega))) | ((with_reducible refine bl_later ?_ ?_); (focus (first | (simp; done) | (simp; omega) | omega))) | with_reducible refine bl_drew ?_ | with_reducible refine bl_drewN ?_ | ((with_reducible refine bl_step (by assumption) ?_ ?_); (focus (first | (simp; done) | (simp; omega) | omega))))))
theorem c_spec_sched (x : Int) (w : World) : Calls Try.prog 61 #[.int .i64 x] w fun e w' => e = .returned (.bool (x == 2 || x == 3)) ∧ w = w' := by
  go_enter Try.func61, Try.ntmps61
  go_wp2
  all_goals go_ret
  all_goals (go_light; refine ⟨by simp_all, rfl⟩)
theorem c_impl_sched (x : Int) (w : World) : Calls Try.prog 65 #[.int .i64 x] w fun e w' => e = .returned (.bool (x == 2 || x == 3)) ∧ w = w' := by
  go_enter Try.func65, Try.ntmps65
  go_wp2
  all_goals go_ret
  all_goals (go_light; refine ⟨by simp_all, rfl⟩)

theorem info_Due : (Try.prog.info? 93).map (fun i => (i.zero, i.size, i.bytes)) = some (some (.agg #[.int .i64 0, .int .i64 0]), 2, 16) := by kernel_rfl

theorem c_laws_toDueS (ao : Option Addr) (cap : Nat) (l : List (Int × Int)) (w : World) (h : ReadA dueE w ao l) (hs : l.length ≤ 1099511627776) :
    Calls Try.prog 63 #[.slice ao l.length cap] w (RetA dueE w 93 l) := by
  have hm := h.2.1
  obtain ⟨i0, hi, hz0, hz1, hz2⟩ := info_parts info_Due
  go_enter Try.func63, Try.ntmps63
  go_wp2_with (at_make; refine wpList_make_full _ rfl _ _ 75 rfl w.heap.size 93 i0 (.agg #[.int .i64 0, .int .i64 0]) 2 Try.underlying75 hi hz0 hz1 _ _ _ _ l.length rfl rfl rfl rfl ?c1 ?c2 ?c3 ?_)
  case c1 => rw [hz2]; omega
  case c2 => unfold maxLen; omega
  case c3 => omega
  intro w1 hown hgrow
  have hown1 : ∃ xs, PreA dueE l 0 xs ∧ w1.ownsRow w.heap.size 93 2 (.slice (some ⟨w.heap.size, 0, none⟩) l.length l.length) l.length xs := ⟨_, PreA.zero hown.1, hown⟩
  have hb1 : Below w.heap.size w w1 := (Below.refl _ _).grown hgrow (Nat.le_refl _) (by simp)
  clear hown hgrow
  go_wp2
  go_loopw [4] (fun i wr => ∃ k : Nat, k ≤ l.length ∧ i = .int .i64 k ∧ (∃ xs, PreA dueE l k xs ∧ wr.ownsRow w.heap.size 93 2 (.slice (some ⟨w.heap.size, 0, none⟩) l.length l.length) l.length xs) ∧ Below w.heap.size w wr)
    (fun i _ => l.length - (intOf i).toNat)
  case atStart => exact ⟨0, Nat.zero_le _, rfl, hown1, hb1⟩
  case round =>
    obtain ⟨k, hk, rfl, ⟨xs, hpre, hown⟩, hbel⟩ := hrel
    clear hown1 hb1
    by_cases hlt : k < l.length
    · obtain ⟨b, off, rfl, hbl, hc⟩ := due_at h hlt
      have hck0 : _ := (hbel.cell (p := ⟨b, off + k * 2, none⟩) hbl).trans (hc k hlt).1
      have hck1 : _ := (hbel.cell (p := ⟨b, off + k * 2 + 1, none⟩) hbl).trans (hc k hlt).2
      clear hc
      have Hpre := Lib.hid hpre
      have Hown := Lib.hid hown
      clear hpre hown
      go_wp2_with (go_at_call 72; refine (c_laws_toDue _ _ _).mono ?_; rintro e w2 ⟨rfl, hb2⟩; have hown2 := owns_below Hown.out hb2; obtain ⟨u0, hu0⟩ := Hpre.out.cell hlt (j := 0) (by decide); obtain ⟨u1, hu1⟩ := Hpre.out.cell hlt (j := 1) (by decide); have hroom := PreA.room (E := dueE) hlt; simp only [dueE_n] at hroom hu0 hu1; have hcu0 := (hown2.cellAt (k * 2) (by omega)).trans hu0; have hcu1 := (hown2.cellAt (k * 2 + 1) (by omega)).trans hu1; have hf0 := hown2.frozenAt (k * 2); have hf1 := hown2.frozenAt (k * 2 + 1); have Hown2 := Lib.hid hown2; clear hown2 hu0 hu1 hroom)
      go_roundw
      case rel => exact ⟨k + 1, by omega, by go_num, ⟨_, Hpre.out.step hlt, wsets_owns (dueCells l[k]) _ _ _ Hown2.out⟩, wsets_below (Nat.le_refl _) (dueCells l[k]) _ _ (bl_step hb2 hbel.size hbel)⟩
      case measure => simp [intOf]; omega
    · obtain rfl : k = l.length := by omega
      go_wp2
      go_ret
      exact ⟨_, _, rfl, ⟨h.1, hm, by rw [← hpre.all]; exact hown⟩, hbel⟩

theorem due_eq_of_all {l m : List (Int × Int)} (hl : l.length = m.length) (h : ∀ i (h1 : i < l.length) (h2 : i < m.length), l[i] = m[i]) : (l == m) = true := by
  rw [beq_iff_eq]; exact List.ext_getElem hl h
theorem due_ne_of_at {l m : List (Int × Int)} {k : Nat} (h1 : k < l.length) (h2 : k < m.length) (h : (l[k].1 == m[k].1 && l[k].2 == m[k].2) = false) : (l == m) = false := by
  rw [beq_eq_false_iff_ne]; rintro rfl; simp at h
theorem due_ne_of_length {l m : List (Int × Int)} (h : l.length ≠ m.length) : (l == m) = false := by
  rw [beq_eq_false_iff_ne]; rintro rfl; exact h rfl

theorem c_laws_eqDueS (ao ao2 : Option Addr) (cap cap2 : Nat) (l m : List (Int × Int)) (w : World) (h : ReadA dueE w ao l) (h2 : ReadA dueE w ao2 m) :
    Calls Try.prog 68 #[.slice ao l.length cap, .slice ao2 m.length cap2] w fun e w' => e = .returned (.bool (l == m)) ∧ Below w.heap.size w w' := by
  have hm := h.2.1
  have hm2 := h2.2.1
  by_cases hlen : l.length = m.length
  · have Hlen := Lib.hid hlen
    have hle : l.length ≤ m.length := by omega
    have hdec : ((l.length : Int) != (m.length : Int)) = false := by simp [hlen]
    clear hlen
    go_enter Try.func68, Try.ntmps68
    go_wp2
    go_loopw [5] (fun i wr => ∃ k : Nat, k ≤ l.length ∧ i = .int .i64 k ∧ Hid (∀ i (h1 : i < l.length) (h2 : i < m.length), i < k → l[i] = m[i]) ∧ Below w.heap.size w wr)
      (fun i _ => l.length - (intOf i).toNat)
    case atStart => exact ⟨0, Nat.zero_le _, rfl, fun i _ _ h => by omega, Below.refl _ _⟩
    case round =>
      obtain ⟨k, hk, rfl, Hall, hbel⟩ := hrel
      by_cases hlt : k < l.length
      · have hlt2 : k < m.length := by omega
        obtain ⟨b, off, rfl, hbl, hc⟩ := due_at h hlt
        obtain ⟨b2, off2, rfl, hbl2, hc2⟩ := due_at h2 hlt2
        have hck : _ := (hbel.cell (p := ⟨b, off + k * 2, none⟩) hbl).trans (hc k hlt).1
        have hck1 : _ := (hbel.cell (p := ⟨b, off + k * 2 + 1, none⟩) hbl).trans (hc k hlt).2
        have hck2 : _ := (hbel.cell (p := ⟨b2, off2 + k * 2, none⟩) hbl2).trans (hc2 k hlt2).1
        have hck3 : _ := (hbel.cell (p := ⟨b2, off2 + k * 2 + 1, none⟩) hbl2).trans (hc2 k hlt2).2
        have hbw := Nat.lt_of_lt_of_le hbl hbel.size
        have hbw2 := Nat.lt_of_lt_of_le hbl2 hbel.size
        clear hc hc2
        have hp : (k : Int) < l.length := by omega
        have hp2 : (k : Int) < m.length := by omega
        cases hn : (l[k].1 == m[k].1 && l[k].2 == m[k].2)
        all_goals
          go_wp2_with fail
          refine wp_region_later (by kernel_rfl) (by kernel_rfl) ?_
          repeat (first | go_big_quiet_step ((go_at_call 73; exact later_call (c_laws_eqDue _ _ _ _ _))) | quiet_step ((go_at_call 73; exact later_call (c_laws_eqDue _ _ _ _ _))))
          refine wpQuiet_nil ?_
          intro _ hw'
          obtain ⟨x, hw''⟩ := hw'
          subst hw''
          go_wp2
        · go_ret
          exact ⟨by rw [due_ne_of_at hlt hlt2 hn]; rfl, bl_later hbel.size hbel⟩
        · go_roundw
          case rel => exact ⟨k + 1, by omega, by go_num, fun i h1 h2 h => by
            by_cases he : i = k
            · subst he; simp at hn; exact Prod.ext hn.1 hn.2
            · exact Hall.out i h1 h2 (by omega), bl_later hbel.size hbel⟩
          case measure => simp [intOf]; omega
      · go_wp2
        go_ret
        exact ⟨by rw [due_eq_of_all Hlen.out fun i h1 h2 => Hall.out i h1 h2 (by omega)]; rfl, hbel⟩
  · have hdec : ((l.length : Int) != (m.length : Int)) = true := by simp; omega
    have hr := due_ne_of_length hlen
    go_enter Try.func68, Try.ntmps68
    go_wp2
    go_ret
    exact ⟨by rw [hr]; rfl, Below.refl _ _⟩
end Go.Proofs.Ytbnmbgfpbagndaa
