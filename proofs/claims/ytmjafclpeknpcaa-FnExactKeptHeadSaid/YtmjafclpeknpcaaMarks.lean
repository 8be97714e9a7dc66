/- The laws' marks in a slice of int64: written, and found again. -/
import Derived.Test.YtmjafclpeknpcaaRows2
import Derived.Test.YtmjafclpeknpcaaMapI
namespace Go.Proofs.Ytmjafclpeknpcaa
open Go.RowKit
set_option maxHeartbeats 400000

def seqI (k : Int) (n : Nat) : List Int := (List.range n).map fun i : Nat => k + i
theorem length_seqI (k : Int) (n : Nat) : (seqI k n).length = n := by simp [seqI]
theorem seqI_zero (k : Int) : seqI k 0 = [] := rfl
theorem seqI_at {k : Int} {n i : Nat} (h : i < (seqI k n).length) : (seqI k n)[i] = k + i := by simp [seqI]
def rowM (l : List Int) (k : Int) (q : Nat) : List Int := seqI k q ++ l.drop q
theorem rowM_zero (l : List Int) (k : Int) : rowM l k 0 = l := by simp [rowM, seqI]
theorem rowM_all (l : List Int) (k : Int) : rowM l k l.length = seqI k l.length := by simp [rowM]
theorem length_rowM (l : List Int) (k : Int) {q : Nat} (h : q ≤ l.length) : (rowM l k q).length = l.length := by simp [rowM, length_seqI]; omega
theorem rowM_succ (l : List Int) (k : Int) {q : Nat} (h : q < l.length) : ((rowM l k q).map (Value.int .i64)).set q (.int .i64 (k + q)) = (rowM l k (q + 1)).map (Value.int .i64) := by
  rw [← List.map_set]
  congr 1
  unfold rowM
  rw [List.set_append_right _ _ (by simp [length_seqI]), length_seqI, Nat.sub_self, List.drop_eq_getElem_cons h, List.set_cons_zero]
  unfold seqI
  rw [List.range_succ, List.map_append, List.append_assoc]
  rfl

/-- what a mark leaves: the numbers, and everything else as it was -/
def RetMark (w : World) (lo ty : Nat) (ao : Option Addr) (cap : Nat) (n : Nat) (k : Int) (e : Ending) (w' : World) : Prop :=
  e = .returned (.int .i64 (k + n)) ∧ IntsO w' lo ty (.slice ao n cap) (seqI k n) ∧ w.grownBy w' (Value.ownBlock (.slice ao n cap)) ∧ w'.heap.size = w.heap.size

theorem c_laws_markInt64S (ao : Option Addr) (cap lo : Nat) (l : List Int) (k : Int) (w : World) (h : IntsO w lo 2 (.slice ao l.length cap) l) (hk : 0 ≤ k) (hk2 : k ≤ 1099511627776) (hl : l.length ≤ 1099511627776) :
    Calls Try.prog 151 #[.slice ao l.length cap, .int .i64 k] w (RetMark w lo 2 ao cap l.length k) := by
  have hin : ∀ x ∈ seqI k l.length, inI64 x := by
    intro x hx
    simp only [seqI, List.mem_map, List.mem_range] at hx
    obtain ⟨i, hi, rfl⟩ := hx
    unfold inI64; omega
  by_cases h0 : l.length = 0
  · obtain rfl : l = [] := List.eq_nil_of_length_eq_zero h0
    simp only [List.length_nil] at *
    go_enter Try.func151, Try.ntmps151
    go_wp2
    refine wp_loop_rounds 1 ?_
    rw [rounds_succ]
    go_wp2
    go_ret
    exact ⟨by simp, h, World.grownBy.refl _ _, rfl⟩
  · obtain ⟨h1, h2, h3⟩ := h
    have hg : ∃ g, ao = some ⟨g, 0, none⟩ := by
      rcases h3.2 with ⟨_, h5⟩ | ⟨g, cap', cur, h4, _⟩
      · exact absurd h5 h0
      · simp only [Value.slice.injEq] at h4
        exact ⟨g, h4.1⟩
    obtain ⟨g, rfl⟩ := hg
    have H3 := Lib.hid h3
    clear h3
    go_enter Try.func151, Try.ntmps151
    go_wp2
    go_loopw [1, 5] (fun kk i wr => ∃ q : Nat, q ≤ l.length ∧ i = .int .i64 q ∧ kk = .int .i64 (k + q) ∧ Hid (wr.ownsRow lo 2 1 (.slice (some ⟨g, 0, none⟩) l.length cap) l.length ((rowM l k q).map (Value.int .i64))) ∧ Hid (w.grownBy wr (some g)) ∧ Hid (wr.heap.size = w.heap.size))
      (fun _ i _ => l.length - (intOf i).toNat)
    case atStart => exact ⟨0, Nat.zero_le _, rfl, by simp, by rw [rowM_zero]; exact H3.out, World.grownBy.refl _ _, rfl⟩
    case round =>
      obtain ⟨q, hq, rfl, rfl, Hown, Hgr, Hsz⟩ := hrel
      by_cases hlt : q < l.length
      · have hcell := Hown.out.cellAt q (by omega)
        have hu : ∃ u, ((rowM l k q).map (Value.int .i64))[q]? = some u := ⟨_, List.getElem?_eq_getElem (by rw [List.length_map, length_rowM l k (by omega)]; exact hlt)⟩
        obtain ⟨u, hu⟩ := hu
        rw [hu] at hcell
        have hfz := Hown.out.frozenAt q
        have Hst := Lib.hid (Hown.out.stored q (.int .i64 (k + q)))
        clear hu
        have hb1 : 0 ≤ k + (q : Int) := by omega
        have hb2 : k + (q : Int) ≤ 2199023255552 := by omega
        go_wp2
        go_roundw
        case rel => exact ⟨q + 1, by omega, by go_num, by go_num, by rw [← rowM_succ l k hlt]; exact Hst.out.1,
          ⟨Hgr.out.os, Hgr.out.tape, Hgr.out.output, by simp [World.setCell]; exact Hgr.out.size, fun j hj hne => (Below.heap_setCell _ _ _ _ (by intro e; exact hne (by rw [e]))).trans (Hgr.out.block j hj hne)⟩, by show (wr.setCell _ _).heap.size = w.heap.size; simpa [World.setCell] using Hsz.out⟩
        case measure => simp [intOf]; omega
      · obtain rfl : q = l.length := by omega
        go_wp2
        go_ret
        refine ⟨rfl, ⟨hin, by rw [length_seqI]; omega, ?_⟩, Hgr.out, Hsz.out⟩
        have := Hown.out
        rw [rowM_all] at this
        rw [length_seqI]
        exact this

theorem read_seqI {w : World} {lo e cap n : Nat} {ao : Option Addr} {k : Int} (h : IntsO w lo e (.slice ao n cap) (seqI k n)) : IntsR w ao (seqI k n) := by
  refine IntsO.read (lo := lo) (e := e) (cap := cap) ?_
  rw [length_seqI]
  exact h

theorem c_laws_heldInt64S (ao : Option Addr) (cap n : Nat) (k : Int) (w : World) (h : IntsR w ao (seqI k n)) (hk : 0 ≤ k) (hk2 : k ≤ 1099511627776) (hl : n ≤ 1099511627776) :
    Calls Try.prog 152 #[.slice ao n cap, .int .i64 k] w fun e w' => e = .returned (.int .i64 (k + n)) ∧ w = w' := by
  go_enter Try.func152, Try.ntmps152
  go_wp2
  go_loop [1, 5] (fun kk i => ∃ q : Nat, q ≤ n ∧ i = .int .i64 q ∧ kk = .int .i64 (k + q)) (fun _ i => n - (intOf i).toNat)
  case atStart => exact ⟨0, Nat.zero_le _, rfl, by simp⟩
  case round =>
    obtain ⟨q, hq, rfl, rfl⟩ := hrel
    by_cases hlt : q < n
    · have hlt2 : q < (seqI k n).length := by rw [length_seqI]; exact hlt
      obtain ⟨b, off, rfl, hbl, hr, hc⟩ := h.at hlt2
      have hck := hc q hlt2
      rw [seqI_at] at hck
      clear hc hr
      have hb1 : 0 ≤ k + (q : Int) := by omega
      have hb2 : k + (q : Int) ≤ 2199023255552 := by omega
      go_wp2
      go_round
      case rel => exact ⟨q + 1, by omega, by go_num, by go_num⟩
      case measure => simp [intOf]; omega
    · obtain rfl : q = n := by omega
      go_wp2
      go_ret
      exact ⟨rfl, rfl⟩
end Go.Proofs.Ytmjafclpeknpcaa
